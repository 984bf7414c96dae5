/-
  The walks: the law on any calls.
-/
import Derived.Test.YtfkpgkgjamaoaaaRc21
import Derived.Test.YtfkpgkgjamaoaaaCvLd
import Derived.Test.YtfkpgkgjamaoaaaProg
import Derived.KernelRfl
set_option linter.unusedVariables false
set_option linter.unusedSimpArgs false
set_option linter.unusedSectionVars false
set_option maxRecDepth 10000
namespace Cv
open Go Go.Proofs
@[reducible] def e42 : Int × Int × Int × Int → List Value | (a_0, a_1, a_2, a_3) => [.int .i64 a_0, .int .i64 a_1, .int .i64 a_2, .int .i64 a_3]
def g42 : Int × Int × Int × Int → Prop | (a_0, a_1, a_2, a_3) => (-9223372036854775808 ≤ a_0 ∧ a_0 ≤ 9223372036854775807) ∧ (-9223372036854775808 ≤ a_1 ∧ a_1 ≤ 9223372036854775807) ∧ (-9223372036854775808 ≤ a_2 ∧ a_2 ≤ 9223372036854775807) ∧ (-9223372036854775808 ≤ a_3 ∧ a_3 ≤ 9223372036854775807)
theorem el42z {H : Type} {enc : TypeId × Value → H} {W : World} {base : Nat} {sp : Nat → Bool} {held : Bool} {n : Nat} {cs : List Value} {y : DataW H × List MemPlace} (h : DataW.trod enc Try.prog W base sp held n 42 cs = some y) : ∃ z, cs = e42 z ∧ g42 z := by
  obtain ⟨xs, m, -, -, hl, hx, hf⟩ := DataW.trod_struct Try.underlying42 h
  rw [show Try.prog.cellsOf 42 = 4 from by kernel_rfl] at hl
  match cs, hl with
  | [c0, c1, c2, c3], _ =>
    obtain ⟨y0, h0⟩ := Cv.el_field (o := 0) hx hf 0 _ rfl rfl (show Try.prog.cellsOf 3 = 1 from by kernel_rfl)
    obtain ⟨a_0, e0, w0⟩ := el3z h0
    simp only [e3, List.drop, List.take, List.cons.injEq, and_true] at e0
    obtain rfl := e0
    simp only [g3] at w0
    obtain ⟨y1, h1⟩ := Cv.el_field (o := 1) hx hf 1 _ rfl rfl (show Try.prog.cellsOf 3 = 1 from by kernel_rfl)
    obtain ⟨a_1, e1, w1⟩ := el3z h1
    simp only [e3, List.drop, List.take, List.cons.injEq, and_true] at e1
    obtain rfl := e1
    simp only [g3] at w1
    obtain ⟨y2, h2⟩ := Cv.el_field (o := 2) hx hf 2 _ rfl rfl (show Try.prog.cellsOf 3 = 1 from by kernel_rfl)
    obtain ⟨a_2, e2, w2⟩ := el3z h2
    simp only [e3, List.drop, List.take, List.cons.injEq, and_true] at e2
    obtain rfl := e2
    simp only [g3] at w2
    obtain ⟨y3, h3⟩ := Cv.el_field (o := 3) hx hf 3 _ rfl rfl (show Try.prog.cellsOf 3 = 1 from by kernel_rfl)
    obtain ⟨a_3, e3, w3⟩ := el3z h3
    simp only [e3, List.drop, List.take, List.cons.injEq, and_true] at e3
    obtain rfl := e3
    simp only [g3] at w3
    exact ⟨(a_0, a_1, a_2, a_3), rfl, ⟨w0, w1, w2, w3⟩⟩
theorem sz42 : Sz Try.prog 42 4 := fun w => by kernel_rfl
theorem ag42 : Ag Try.prog 42 4 := fun w => ⟨by kernel_rfl, by kernel_rfl⟩
theorem zv42 : ∀ w, (zeroValue 42).run Try.prog w = .ok (Value.agg #[Value.int .i64 0, Value.int .i64 0, Value.int .i64 0, Value.int .i64 0]) w := fun w => by kernel_rfl
theorem ze42 : Ze Try.prog 42 [Value.int .i64 0, Value.int .i64 0, Value.int .i64 0, Value.int .i64 0] := ⟨_, rfl, zv42⟩
theorem fo42_1 : Fo Try.prog 42 1 1 := fun a w => by kernel_rfl
theorem fo42_0 : Fo Try.prog 42 0 0 := fun a w => by kernel_rfl
theorem fo42_2 : Fo Try.prog 42 2 2 := fun a w => by kernel_rfl
theorem fo42_3 : Fo Try.prog 42 3 3 := fun a w => by kernel_rfl
set_option maxHeartbeats 400000 in
theorem idn_spec {n : Int}  : Spec Try.prog 14 [.int .i64 n] [] [] (fun v D' M' => v = .agg (iC (idN n)).toArray ∧ D' = [] ∧ M' = []) := by
  refine Spec.intro (n := 9) Try.func14 rfl rfl (by decide) (Nat.le_of_ble_eq_true rfl) rfl (fun _ => qA) (fun _ => qA) ?_
  intro σ D M
  have hi3 := iC_len (idN n)
  have hr1 : -70 < n.tmod 70 ∧ n.tmod 70 < 70 := ⟨by have := Int.lt_tmod_of_pos n (show (0 : Int) < 70 by decide); omega, Int.tmod_lt_of_pos n (by decide)⟩
  refine T.seq ?_
  refine T.region ?_
  refine L.alloc rfl ze28 (fun b2 => ?_)
  refine L.nil ?_
  refine T.thenN ?_
  refine T.seq ?_
  refine T.region ?_
  refine L.move rfl rfl ?_
  refine L.remI rfl rfl rfl (by decide) ?_
  refine L.addN rfl rfl rfl (by omega) ?_
  refine L.remI rfl rfl rfl (by decide) ?_
  rw [tmod70]
  refine L.convIY rfl Try.underlying3 Try.underlying5 rfl ?_
  refine L.build rfl bua28 (BP.one rfl rfl rfl <| BP.one rfl rfl rfl <| BP.doneE (out := (Value.int .u8 0 :: Value.int .u8 0 :: Value.int .u8 0 :: Value.int .u8 0 :: Value.int .u8 0 :: Value.int .u8 0 :: Value.int .u8 0 :: Value.int .u8 0 :: Value.int .u8 0 :: Value.int .u8 0 :: Value.int .u8 0 :: Value.int .u8 0 :: Value.int .u8 0 :: Value.int .u8 0 :: Value.int .u8 0 :: Value.int .u8 0 :: Value.int .u8 0 :: Value.int .u8 0 :: Value.int .u8 0 :: Value.int .u8 0 :: Value.int .u8 0 :: Value.int .u8 0 :: Value.int .u8 0 :: Value.int .u8 0 :: Value.int .u8 0 :: Value.int .u8 0 :: Value.int .u8 0 :: Value.int .u8 0 :: Value.int .u8 0 :: Value.int .u8 0 :: [])) rfl) ?_
  refine L.known (t := 8) (u := .agg (iC (idN n)).toArray) rfl (by have e : ((n % 70) % 256).toNat = (n % 70).toNat := (by omega); simp [idN, iC, e]; exact ⟨rfl, rfl⟩) ?_
  refine L.storeA ag28 rfl rfl qL qO qU qW ?_
  refine L.nil ?_
  refine T.thenN ?_
  refine T.ret ?_
  exact T.retA rfl ag28 rfl qN ⟨rfl, rfl, rfl⟩ qD qF
set_option maxHeartbeats 400000 in
theorem obytes_spec {l : List UInt8} (hl : l.length = 32) : Spec Try.prog 16 [.agg (l.map Y).toArray] [] [] (fun v D' M' => v = S l ∧ D' = [] ∧ M' = []) := by
  refine Spec.intro (n := 5) Try.func16 rfl rfl (by decide) (Nat.le_of_ble_eq_true rfl) rfl (fun _ => qA) (fun _ => qA) ?_
  intro σ D M
  refine T.seq ?_
  refine T.region ?_
  refine L.box rfl rfl rfl (fun b1 => ?_)
  refine L.assign rfl rfl ?_
  refine L.nil ?_
  refine T.toOwn (len := 32) qP (rows := l.map yr) (sz := 1) (yr_flat l) (by simp [hl]) (by simp) ?_
  refine T.ownRsl qP ?_
  refine T.thenN ?_
  refine T.seq ?_
  refine T.region ?_
  refine L.sliceArr rfl Try.underlying28 sz5 rfl Bd.no Bd.no qI qI ?_
  refine L.known (t := 3) (u := .slice (some ⟨b1, 0, none⟩) 32 32) rfl (by first | rfl | simp [cutA, Addr.add]) ?_
  refine L.bytesStr rfl Try.underlying70 Try.underlying5 Try.underlying9 rfl qM ?_
  refine L.assign rfl rfl ?_
  refine L.nil ?_
  refine T.thenN ?_
  refine T.ret ?_
  exact T.ret1 rfl rfl ⟨rfl, rfl, rfl⟩ qD qF
set_option maxHeartbeats 2000000 in
theorem plays_law {a : Option Addr} {len cap : Nat} {xs : List (Int × Int × Int × Int)} {now : Int}  : Spec Try.prog 6 [.slice a len cap, .int .i64 now] [rsl 4 a len cap (xs.map e42)] [] (fun v D' M' => v = .bool true ∧ D' = [] ∧ M' = []) := by
  refine Spec.intro (n := 169) Try.func6 rfl rfl (by decide) (Nat.le_of_ble_eq_true rfl) rfl (fun _ => qA) (fun _ => qA) ?_
  intro σ D M
  refine T.rslLen2 (rows := xs.map e42) qM (fun hxl hxc => ?_)
  rw [List.length_map] at hxl
  refine T.seq ?_
  refine T.region ?_
  refine L.assign rfl rfl ?_
  refine L.nil ?_
  refine T.thenN ?_
  refine T.seq ?_
  refine T.seq ?_
  refine T.region ?_
  refine L.call rfl (evs.nil) qD qS (awake_spec) ?_
  rintro _ _ _ ⟨rfl, rfl, rfl⟩
  refine L.norm qA qA ?_
  refine L.notB rfl rfl ?_
  refine L.nil ?_
  refine T.thenN ?_
  refine T.condF rfl rfl ?_
  refine T.skip ?_
  refine T.thenN ?_
  refine T.seq ?_
  refine T.region ?_
  refine L.call rfl (evs.nil) qD qS (pnew_spec) ?_
  rintro _ _ _ ⟨sb, sm, rfl, rfl, rfl⟩
  refine L.norm qA qA ?_
  refine L.assign rfl rfl ?_
  refine L.nil ?_
  refine T.thenN ?_
  refine T.seq ?_
  refine T.region ?_
  refine L.buildSlice rfl bs40 (by decide) (BP.doneE (out := []) rfl) (fun b25 => ?_)
  refine L.toOwn (len := 0) qP (rows := ([] : List PO).map poR) (sz := 3) (by rfl) rfl (by simp) ?_
  refine L.ownRsl (rows := ([] : List PO).map poR) qP ?_
  refine L.assign rfl rfl ?_
  refine L.nil ?_
  refine T.thenN ?_
  refine T.seq ?_
  refine T.seq ?_
  refine T.region ?_
  refine L.assign rfl rfl ?_
  refine L.nil ?_
  refine T.thenN ?_
  refine T.block ?_
  refine T.loop (fun K' D' M' μ => ∃ (i n6 c6 : Nat) (a6 : Option Addr) (t : Tb) (l : List PO), ((i ≤ len ∧ i ≤ 120) ∧ RelP t l ∧ l.length = n6 ∧ n6 ≤ i) ∧ K' = [(7, .int .i64 (i : Int)), (6, .slice a6 n6 c6)] ∧ D' = [rsl 3 a6 n6 c6 (l.map poR)] ∧ M' = [tbA sm t] ∧ μ = 120 - i) (.cons (t := 0) rfl <| .cons (t := 1) rfl <| .cons (t := 5) rfl <| SubK.nil _) (⟨0, 0, _, _, [], [], ⟨⟨Nat.zero_le _, Nat.zero_le _⟩, RelP.zero, rfl, Nat.le_refl _⟩, rfl, rfl, rfl, rfl⟩) (.cons (t := 7) rfl <| .cons (t := 6) rfl <| SubK.nil _) qD qS ?_
  rintro K1 D1 M1 m1 ⟨i, n6, c6, a6, t, l, ⟨⟨hi1, hi2⟩, hR, hl6, hn6⟩, rfl, rfl, rfl, rfl⟩
  refine T.norm3 qA qA qA ?_
  refine T.seq ?_
  refine T.seq ?_
  refine T.cutC (fun K' D' M' => ∃ (w : Bool), (w = true ↔ (i < len ∧ i < 120)) ∧ K' = [(33, .bool w)] ∧ D' = [] ∧ M' = []) (M0 := []) (.cons (t := 0) rfl <| .cons (t := 1) rfl <| .cons (t := 5) rfl <| .cons (t := 6) rfl <| .cons (t := 7) rfl <| SubK.nil _) qS ?_ ?_
  · skip
    refine T.region ?_
    refine L.move rfl rfl ?_
    refine L.move rfl rfl ?_
    refine L.lenSl rfl Try.underlying39 rfl ?_
    refine L.ltI rfl rfl rfl ?_
    refine L.move rfl rfl ?_
    refine L.part (t := 30) rfl (fun h1 => ?_) (fun h1 => ?_)
    · try simp only [decide_eq_true_eq, decide_eq_false_iff_not, Bool.not_eq_true', Bool.not_eq_false', Bool.and_eq_true, Bool.or_eq_true] at h1
      refine L.guardT (dj := 30) rfl rfl rfl ?_
      refine L.move rfl rfl ?_
      refine L.guardT (dj := 30) rfl rfl rfl ?_
      refine L.ltI rfl rfl rfl ?_
      refine L.pickT rfl rfl rfl ?_
      refine L.nil ?_
      refine T.thenN ?_
      exact T.toJoin ⟨_, (by simp_all <;> omega), rfl, rfl, rfl⟩ (.cons (t := 33) rfl <| SubK.nil _) (.cons (t := 0) rfl <| .cons (t := 1) rfl <| .cons (t := 5) rfl <| .cons (t := 6) rfl <| .cons (t := 7) rfl <| SubK.nil _) qD qD qF
    · try simp only [decide_eq_true_eq, decide_eq_false_iff_not, Bool.not_eq_true', Bool.not_eq_false', Bool.and_eq_true, Bool.or_eq_true] at h1
      refine L.guardF (dj := 30) (c := false) rfl rfl rfl rfl rfl (by decide) ?_
      refine L.guardF (dj := 30) (c := false) rfl rfl rfl rfl rfl (by decide) ?_
      refine L.pickF rfl rfl rfl ?_
      refine L.nil ?_
      refine T.thenN ?_
      exact T.toJoin ⟨_, (by simp_all <;> omega), rfl, rfl, rfl⟩ (.cons (t := 33) rfl <| SubK.nil _) (.cons (t := 0) rfl <| .cons (t := 1) rfl <| .cons (t := 5) rfl <| .cons (t := 6) rfl <| .cons (t := 7) rfl <| SubK.nil _) qD qD qF
  rintro _ _ _ ⟨w, hw, rfl, rfl, rfl⟩
  refine T.norm3 qA qA qA ?_
  refine T.thenN ?_
  refine T.cond rfl (fun h33 => ?_) (fun h33 => ?_)
  · try simp only [decide_eq_true_eq, decide_eq_false_iff_not, Bool.not_eq_true', Bool.not_eq_false', Bool.and_eq_true, Bool.or_eq_true] at h33
    have hwt := hw.1 h33
    refine T.skip ?_
    refine T.thenN ?_
    refine T.seq ?_
    refine T.block ?_
    refine T.seq ?_
    obtain ⟨⟨kd, nm, an, at_⟩, hgi⟩ : ∃ p, xs[i]? = some p := ⟨_, List.getElem?_eq_getElem (by omega)⟩
    have hgr : (xs.map e42)[i]? = some (e42 (kd, nm, an, at_)) := map_get hgi
    refine T.region ?_
    refine L.move rfl rfl ?_
    refine L.move rfl rfl ?_
    refine L.idx (i := i) rfl Try.underlying39 sz42 rfl rfl qM (by first | rfl | omega | (simp; done)) qG (fun b38 o38 => ?_)
    refine L.loadA rfl ag42 rfl qN ?_
    refine L.alloc rfl ze42 (fun b8 => ?_)
    refine L.storeA ag42 rfl rfl qL qO qU qW ?_
    refine L.nil ?_
    refine T.freeze (A := cl b8 42 (e42 (kd, nm, an, at_))) qP ?_
    refine T.thenN ?_
    refine T.seq ?_
    refine T.region ?_
    first | refine L.field0 rfl fo42_1 rfl ?_ | refine L.field rfl fo42_1 rfl ?_
    refine L.load rfl sc3 rfl qC ?_
    refine L.call rfl (evs.cons rfl <| evs.nil) qD qS (idn_spec (n := nm)) ?_
    rintro _ _ _ ⟨rfl, rfl, rfl⟩
    refine L.norm qA qA ?_
    obtain ⟨kx, hkx⟩ : ∃ z, z = idN nm := ⟨_, rfl⟩
    rw [← hkx]
    have hk3 := iC_len kx
    have hk32 := kx.2
    refine L.alloc rfl ze28 (fun b9 => ?_)
    refine L.storeA ag28 rfl rfl qL qO qU qW ?_
    refine L.nil ?_
    refine T.freeze (A := cl b9 28 (iC kx)) qP ?_
    refine T.thenN ?_
    refine T.seq ?_
    refine T.seq ?_
    refine T.region ?_
    first | refine L.field0 rfl fo42_0 rfl ?_ | refine L.field rfl fo42_0 rfl ?_
    refine L.load rfl sc3 rfl qC ?_
    refine L.nil ?_
    refine T.thenN ?_
    refine T.cutC (fun K' D' M' => ∃ (n6 c6 : Nat) (a6 : Option Addr) (t2 : Tb) (l2 : List PO), (RelP t2 l2 ∧ l2.length = n6 ∧ n6 ≤ i + 1) ∧ K' = [(6, .slice a6 n6 c6)] ∧ D' = [rsl 3 a6 n6 c6 (l2.map poR)] ∧ M' = [tbA sm t2]) (M0 := [tbA sm t]) (.cons (t := 0) rfl <| .cons (t := 1) rfl <| .cons (t := 5) rfl <| .cons (t := 7) rfl <| .cons (t := 9) rfl <| SubK.nil _) qS ?_ ?_
    · skip
      refine T.block ?_
      refine T.seq ?_
      refine T.region ?_
      refine L.eqI rfl rfl rfl ?_
      refine L.assign rfl rfl ?_
      refine L.nil ?_
      refine T.thenN ?_
      refine T.cond rfl (fun h45 => ?_) (fun h45 => ?_)
      · try simp only [decide_eq_true_eq, decide_eq_false_iff_not, Bool.not_eq_true', Bool.not_eq_false', Bool.and_eq_true, Bool.or_eq_true] at h45
        refine T.seq ?_
        refine T.region ?_
        refine L.move rfl rfl ?_
        refine L.loadA rfl ag28 rfl (CellsN.ofF qM (AtN.all hk3)) ?_
        first | refine L.field0 rfl fo42_2 rfl ?_ | refine L.field rfl fo42_2 rfl ?_
        refine L.load rfl sc3 rfl qC ?_
        first | refine L.field0 rfl fo42_3 rfl ?_ | refine L.field rfl fo42_3 rfl ?_
        refine L.load rfl sc3 rfl qC ?_
        refine L.call rfl (evs.cons rfl <| evs.cons rfl <| evs.cons rfl <| evs.cons rfl <| evs.nil) qD qS (put_spec (b := sb) (tm := sm) (t := t) (k := kx) (a := an) (u := at_) (by have := hR.t64; omega) (fun row hr => by have := hR.r8 _ (mem_of_look hr); simp at this; omega)) ?_
        rintro _ _ _ ⟨rfl, rfl, rfl⟩
        refine L.norm qA qA ?_
        refine L.assign rfl rfl ?_
        refine L.nil ?_
        refine T.thenN ?_
        refine T.seq ?_
        refine T.regionA (clsL [1, 1, 2, 1, 1, 1, 1, 2, 1, 1, 1, 1, 1]) (by kernel_rfl) ?_
        refine A.takeP (i := 0) rfl rfl rfl rfl (by kernel_rfl) (by kernel_rfl) (by kernel_rfl) rfl qD ?_
        refine L.move rfl rfl ?_
        refine A.took ?_
        refine A.takeP (i := 1) rfl rfl rfl rfl (by kernel_rfl) (by kernel_rfl) (by kernel_rfl) rfl qD ?_
        refine L.loadA rfl ag28 rfl (CellsN.ofF qM (AtN.all hk3)) ?_
        refine A.took ?_
        refine A.takeP (i := 3) rfl rfl rfl rfl (by kernel_rfl) (by kernel_rfl) (by kernel_rfl) rfl qD ?_
        first | refine L.field0 rfl fo42_2 rfl ?_ | refine L.field rfl fo42_2 rfl ?_
        refine A.took ?_
        refine A.takeP (i := 4) rfl rfl rfl rfl (by kernel_rfl) (by kernel_rfl) (by kernel_rfl) rfl qD ?_
        refine L.load rfl sc3 rfl qC ?_
        refine A.took ?_
        refine A.takeP (i := 5) rfl rfl rfl rfl (by kernel_rfl) (by kernel_rfl) (by kernel_rfl) rfl qD ?_
        first | refine L.field0 rfl fo42_3 rfl ?_ | refine L.field rfl fo42_3 rfl ?_
        refine A.took ?_
        refine A.takeP (i := 6) rfl rfl rfl rfl (by kernel_rfl) (by kernel_rfl) (by kernel_rfl) rfl qD ?_
        refine L.load rfl sc3 rfl qC ?_
        refine A.took ?_
        refine A.branch (is := [2]) (by kernel_rfl) (by decide) (Each.cons rfl ?_ <| Each.nil) 
        refine L.callF rfl (evs.cons rfl <| evs.nil) qD qS (obytes_spec (l := kx.1) hk32) (by rintro u D1 M1 ⟨rfl, rfl, rfl⟩; exact ⟨rfl, _, qA, qF⟩) ?_
        refine A.backT rfl qD ?_
        refine A.branch (is := [7]) (by kernel_rfl) (by decide) (Each.cons rfl ?_ <| Each.nil) 
        refine L.call rfl (evs.cons rfl <| evs.cons rfl <| evs.cons rfl <| evs.cons rfl <| evs.nil) qD qS (rput_spec (l := l) (k := kx) (m := an) (u := at_) (by omega) hR.ln) ?_
        rintro _ _ _ ⟨pa, pn, pc, rfl, hpn, rfl, rfl⟩
        refine L.norm qA qA ?_
        obtain ⟨hs1, hs2⟩ := sim_put hR kx an at_
        have hpl : (putL l kx an at_).1.length ≤ l.length + 1 := putL_len
        refine A.backT rfl qD ?_
        refine A.takeP (i := 8) rfl rfl rfl rfl (by kernel_rfl) (by kernel_rfl) (by kernel_rfl) rfl qD ?_
        refine L.move rfl rfl ?_
        refine A.took ?_
        refine A.takeP (i := 9) rfl rfl rfl rfl (by kernel_rfl) (by kernel_rfl) (by kernel_rfl) rfl qD ?_
        refine L.extract rfl rfl rfl ?_
        refine A.took ?_
        refine A.takeP (i := 10) rfl rfl rfl rfl (by kernel_rfl) (by kernel_rfl) (by kernel_rfl) rfl qD ?_
        refine L.extract rfl rfl rfl ?_
        refine A.took ?_
        refine A.takeP (i := 11) rfl rfl rfl rfl (by kernel_rfl) (by kernel_rfl) (by kernel_rfl) rfl qD ?_
        refine L.assign rfl rfl ?_
        refine A.took ?_
        refine A.takeP (i := 12) rfl rfl rfl rfl (by kernel_rfl) (by kernel_rfl) (by kernel_rfl) rfl qD ?_
        refine L.assign rfl rfl ?_
        refine A.took ?_
        refine A.done (by kernel_rfl) ?_
        refine T.thenN ?_
        refine T.seq ?_
        refine T.region ?_
        refine L.move rfl rfl ?_
        refine L.assign rfl rfl ?_
        refine L.nil ?_
        refine T.thenN ?_
        refine T.seq ?_
        refine T.region ?_
        refine L.move rfl rfl ?_
        refine L.move rfl rfl ?_
        refine L.neI rfl rfl rfl ?_
        refine L.nil ?_
        refine T.thenN ?_
        refine T.condF rfl (by rw [hs1]; simp) ?_
        refine T.skip ?_
        refine T.blkN ?_
        refine T.thenN ?_
        exact T.toJoin ⟨pn, pc, pa, putT t kx an at_, (putL l kx an at_).1, ⟨hs2, hpn, by omega⟩, rfl, rfl, rfl⟩ (.cons (t := 6) rfl <| SubK.nil _) (.cons (t := 0) rfl <| .cons (t := 1) rfl <| .cons (t := 5) rfl <| .cons (t := 7) rfl <| .cons (t := 9) rfl <| SubK.nil _) qD qD qF
      · try simp only [decide_eq_true_eq, decide_eq_false_iff_not, Bool.not_eq_true', Bool.not_eq_false', Bool.and_eq_true, Bool.or_eq_true] at h45
        refine T.seq ?_
        refine T.region ?_
        refine L.eqI rfl rfl rfl ?_
        refine L.assign rfl rfl ?_
        refine L.nil ?_
        refine T.thenN ?_
        refine T.cond rfl (fun h69 => ?_) (fun h69 => ?_)
        · try simp only [decide_eq_true_eq, decide_eq_false_iff_not, Bool.not_eq_true', Bool.not_eq_false', Bool.and_eq_true, Bool.or_eq_true] at h69
          refine T.seq ?_
          refine T.region ?_
          refine L.move rfl rfl ?_
          refine L.loadA rfl ag28 rfl (CellsN.ofF qM (AtN.all hk3)) ?_
          first | refine L.field0 rfl fo42_2 rfl ?_ | refine L.field rfl fo42_2 rfl ?_
          refine L.load rfl sc3 rfl qC ?_
          refine L.buildSlice rfl bs29 (by decide) (BP.one rfl rfl rfl <| BP.doneE (out := []) rfl) (fun b75 => ?_)
          refine L.toOwn (len := 1) qP (rows := ([an] : List Int).map e3) (sz := 1) (by rfl) rfl (by simp) ?_
          refine L.ownRsl (rows := ([an] : List Int).map e3) qP ?_
          refine L.call rfl (evs.cons rfl <| evs.cons rfl <| evs.cons rfl <| evs.nil) qD qS (drop_spec (b := sb) (tm := sm) (t := t) (k := kx) (xs := [an]) (by have := hR.t64; omega) (fun row hr => by have := hR.r8 _ (mem_of_look hr); simp at this; omega) (by decide)) ?_
          rintro _ _ _ ⟨rfl, rfl, rfl⟩
          refine L.norm qA qA ?_
          refine L.nil ?_
          refine T.thenN ?_
          refine T.regionA (clsL [1, 1, 2, 1, 1, 2, 1]) (by kernel_rfl) ?_
          refine A.takeP (i := 0) rfl rfl rfl rfl (by kernel_rfl) (by kernel_rfl) (by kernel_rfl) rfl qD ?_
          refine L.move rfl rfl ?_
          refine A.took ?_
          refine A.takeP (i := 1) rfl rfl rfl rfl (by kernel_rfl) (by kernel_rfl) (by kernel_rfl) rfl qD ?_
          refine L.loadA rfl ag28 rfl (CellsN.ofF qM (AtN.all hk3)) ?_
          refine A.took ?_
          refine A.takeP (i := 3) rfl rfl rfl rfl (by kernel_rfl) (by kernel_rfl) (by kernel_rfl) rfl qD ?_
          first | refine L.field0 rfl fo42_2 rfl ?_ | refine L.field rfl fo42_2 rfl ?_
          refine A.took ?_
          refine A.takeP (i := 4) rfl rfl rfl rfl (by kernel_rfl) (by kernel_rfl) (by kernel_rfl) rfl qD ?_
          refine L.load rfl sc3 rfl qC ?_
          refine A.took ?_
          refine A.branch (is := [2]) (by kernel_rfl) (by decide) (Each.cons rfl ?_ <| Each.nil) 
          refine L.callF rfl (evs.cons rfl <| evs.nil) qD qS (obytes_spec (l := kx.1) hk32) (by rintro u D1 M1 ⟨rfl, rfl, rfl⟩; exact ⟨rfl, _, qA, qF⟩) ?_
          refine A.backT rfl qD ?_
          refine A.branch (is := [5]) (by kernel_rfl) (by decide) (Each.cons rfl ?_ <| Each.nil) 
          refine L.call rfl (evs.cons rfl <| evs.cons rfl <| evs.cons rfl <| evs.nil) qD qS (rdrop_spec (l := l) (k := kx) (m := an) (by omega)) ?_
          rintro _ _ _ ⟨pa, pn, pc, rfl, hpn, rfl, rfl⟩
          refine L.norm qA qA ?_
          have hel : l.filter (fun x => !isK kx an x) = dropL l kx an := rfl
          rw [hel] at hpn ⊢
          have hs2 := sim_drop hR kx an
          have hpl : (dropL l kx an).length ≤ l.length := List.length_filter_le _ _
          refine A.backT rfl qD ?_
          refine A.takeP (i := 6) rfl rfl rfl rfl (by kernel_rfl) (by kernel_rfl) (by kernel_rfl) rfl qD ?_
          refine L.assign rfl rfl ?_
          refine A.took ?_
          refine A.done (by kernel_rfl) ?_
          refine T.blkN ?_
          refine T.thenN ?_
          exact T.toJoin ⟨pn, pc, pa, dropT t kx [an], dropL l kx an, ⟨hs2, hpn, by have : (dropL l kx an).length = pn := hpn; omega⟩, rfl, rfl, rfl⟩ (.cons (t := 6) rfl <| SubK.nil _) (.cons (t := 0) rfl <| .cons (t := 1) rfl <| .cons (t := 5) rfl <| .cons (t := 7) rfl <| .cons (t := 9) rfl <| SubK.nil _) qD qD qF
        · try simp only [decide_eq_true_eq, decide_eq_false_iff_not, Bool.not_eq_true', Bool.not_eq_false', Bool.and_eq_true, Bool.or_eq_true] at h69
          refine T.seq ?_
          refine T.region ?_
          refine L.eqI rfl rfl rfl ?_
          refine L.assign rfl rfl ?_
          refine L.nil ?_
          refine T.thenN ?_
          refine T.cond rfl (fun h83 => ?_) (fun h83 => ?_)
          · try simp only [decide_eq_true_eq, decide_eq_false_iff_not, Bool.not_eq_true', Bool.not_eq_false', Bool.and_eq_true, Bool.or_eq_true] at h83
            refine T.seq ?_
            refine T.region ?_
            refine L.move rfl rfl ?_
            first | refine L.field0 rfl fo42_3 rfl ?_ | refine L.field rfl fo42_3 rfl ?_
            refine L.load rfl sc3 rfl qC ?_
            refine L.call rfl (evs.cons rfl <| evs.cons rfl <| evs.nil) qD qS (expG_spec (b := sb) (tm := sm) (t := t) (now := at_)) ?_
            rintro _ _ _ ⟨rfl, rfl, rfl⟩
            refine L.norm qA qA ?_
            refine L.nil ?_
            refine T.thenN ?_
            refine T.region ?_
            refine L.move rfl rfl ?_
            first | refine L.field0 rfl fo42_3 rfl ?_ | refine L.field rfl fo42_3 rfl ?_
            refine L.load rfl sc3 rfl qC ?_
            refine L.call rfl (evs.cons rfl <| evs.cons rfl <| evs.nil) qD qS (rexp_spec (l := l) (now := at_) (by omega)) ?_
            rintro _ _ _ ⟨pa, pn, pc, rfl, hpn, rfl, rfl⟩
            refine L.norm qA qA ?_
            have hel : l.filter (fun x => decide (at_ < x.2.2)) = expL l at_ := rfl
            rw [hel] at hpn ⊢
            have hs2 := sim_exp hR at_
            have hpl : (expL l at_).length ≤ l.length := List.length_filter_le _ _
            refine L.assign rfl rfl ?_
            refine L.nil ?_
            refine T.blkN ?_
            refine T.thenN ?_
            exact T.toJoin ⟨pn, pc, pa, expT t at_, expL l at_, ⟨hs2, hpn, by have : (expL l at_).length = pn := hpn; omega⟩, rfl, rfl, rfl⟩ (.cons (t := 6) rfl <| SubK.nil _) (.cons (t := 0) rfl <| .cons (t := 1) rfl <| .cons (t := 5) rfl <| .cons (t := 7) rfl <| .cons (t := 9) rfl <| SubK.nil _) qD qD qF
          · try simp only [decide_eq_true_eq, decide_eq_false_iff_not, Bool.not_eq_true', Bool.not_eq_false', Bool.and_eq_true, Bool.or_eq_true] at h83
            refine T.skip ?_
            refine T.blkN ?_
            refine T.thenN ?_
            exact T.toJoin ⟨n6, c6, a6, t, l, ⟨hR, hl6, by omega⟩, rfl, rfl, rfl⟩ (.cons (t := 6) rfl <| SubK.nil _) (.cons (t := 0) rfl <| .cons (t := 1) rfl <| .cons (t := 5) rfl <| .cons (t := 7) rfl <| .cons (t := 9) rfl <| SubK.nil _) qD qD qF
    rintro _ _ _ ⟨n6, c6, a6, t2, l2, ⟨hR2, hl2, hn62⟩, rfl, rfl, rfl⟩
    refine T.norm3 qA qA qA ?_
    refine T.thenN ?_
    refine T.seq ?_
    refine T.region ?_
    refine L.move rfl rfl ?_
    refine L.loadA rfl ag28 rfl (CellsN.ofF qM (AtN.all hk3)) ?_
    refine L.move rfl rfl ?_
    refine L.call rfl (evs.cons rfl <| evs.cons rfl <| evs.cons rfl <| evs.nil) qD qS (get_spec (b := sb) (tm := sm) (t := t2) (k := kx) (now := now) (by have := hR2.t64; omega) (fun row hr => by have := hR2.r8 _ (mem_of_look hr); simp at this; omega)) ?_
    rintro _ _ _ ⟨ga, gn, gc, zs, rfl, hzp, hgn, rfl, rfl⟩
    refine L.norm qA qA ?_
    have hsg := sim_get (now := now) hR2 hzp
    rw [hsg] at hgn ⊢
    have hgl := getR_len hR2 (k := kx) (now := now)
    refine L.ownRsl (rows := (getR l2 kx now).map e3) qP ?_
    refine L.assign rfl rfl ?_
    refine L.nil ?_
    refine T.thenN ?_
    refine T.seq ?_
    refine T.region ?_
    refine L.move rfl rfl ?_
    refine L.loadA rfl ag28 rfl (CellsN.ofF qM (AtN.all hk3)) ?_
    refine L.callF rfl (evs.cons rfl <| evs.nil) qD qS (obytes_spec (l := kx.1) hk32) (by rintro u D1 M1 ⟨rfl, rfl, rfl⟩; exact ⟨rfl, _, qA, qF⟩) ?_
    refine L.move rfl rfl ?_
    refine L.call rfl (evs.cons rfl <| evs.cons rfl <| evs.cons rfl <| evs.nil) qD qS (rget_spec (l := l2) (k := kx) (now := now) (by omega)) ?_
    rintro _ _ _ ⟨wa, wn, wc, rfl, hwn, rfl, rfl⟩
    refine L.norm qA qA ?_
    obtain rfl : gn = wn := by omega
    refine L.ownRsl (rows := (getR l2 kx now).map e3) qP ?_
    refine L.assign rfl rfl ?_
    refine L.nil ?_
    refine T.thenN ?_
    refine T.seq ?_
    refine T.seq ?_
    refine T.region ?_
    refine L.move rfl rfl ?_
    refine L.lenSl rfl Try.underlying29 rfl ?_
    refine L.move rfl rfl ?_
    refine L.lenSl rfl Try.underlying29 rfl ?_
    refine L.neI rfl rfl rfl ?_
    refine L.nil ?_
    refine T.thenN ?_
    refine T.condF rfl (by simp) ?_
    refine T.skip ?_
    refine T.thenN ?_
    refine T.seq ?_
    refine T.region ?_
    refine L.move rfl rfl ?_
    refine L.lenSl rfl Try.underlying29 rfl ?_
    refine L.move rfl rfl ?_
    refine L.nil ?_
    refine T.thenN ?_
    refine T.block ?_
    refine T.loop (fun K' D' M' μ => ∃ (k : Nat), (k ≤ gn) ∧ K' = [(109, .int .i64 (k : Int))] ∧ D' = [] ∧ M' = [] ∧ μ = gn - k) (.cons (t := 0) rfl <| .cons (t := 1) rfl <| .cons (t := 5) rfl <| .cons (t := 6) rfl <| .cons (t := 7) rfl <| .cons (t := 13) rfl <| .cons (t := 14) rfl <| .cons (t := 108) rfl <| SubK.nil _) (⟨0, Nat.zero_le _, rfl, rfl, rfl, rfl⟩) (.cons (t := 109) rfl <| SubK.nil _) qD qS ?_
    rintro K1 D1 M1 m1 ⟨k, hk, rfl, rfl, rfl, rfl⟩
    refine T.norm3 qA qA qA ?_
    refine T.seq ?_
    refine T.region ?_
    refine L.ltI rfl rfl rfl ?_
    refine L.nil ?_
    refine T.thenN ?_
    refine T.seq ?_
    refine T.cond rfl (fun h110 => ?_) (fun h110 => ?_)
    · try simp only [decide_eq_true_eq, decide_eq_false_iff_not, Bool.not_eq_true', Bool.not_eq_false', Bool.and_eq_true, Bool.or_eq_true] at h110
      refine T.skip ?_
      refine T.thenN ?_
      refine T.seq ?_
      refine T.block ?_
      refine T.seq ?_
      refine T.region ?_
      refine L.move rfl rfl ?_
      refine L.assign rfl rfl ?_
      refine L.nil ?_
      refine T.thenN ?_
      refine T.seq ?_
      have hgk : (getR l2 kx now)[k]? = some (gd (getR l2 kx now) k) := gd_get (by omega)
      have hgkr : ((getR l2 kx now).map e3)[k]? = some (e3 (gd (getR l2 kx now) k)) := map_get hgk
      refine T.rslAddr (a := ga) (rows := (getR l2 kx now).map e3) qM (fun e => by have := congrArg List.length e; rw [List.length_map] at this; simp only [List.length_nil] at this; omega) (fun gb_ go_ ha => ?_)
      subst ha
      refine T.rslAddr (a := wa) (rows := (getR l2 kx now).map e3) qM (fun e => by have := congrArg List.length e; rw [List.length_map] at this; simp only [List.length_nil] at this; omega) (fun wb_ wo_ ha => ?_)
      subst ha
      refine T.regionQ (by kernel_rfl) (by kernel_rfl) ?_
      refine L.move rfl rfl ?_
      refine L.move rfl rfl ?_
      refine L.idxR (i := k) rfl Try.underlying29 sz3 rfl rfl qM (by first | rfl | omega | (simp; done)) qI qG ?_
      refine L.load rfl sc3 rfl qC ?_
      refine L.move rfl rfl ?_
      refine L.move rfl rfl ?_
      refine L.idxR (i := k) rfl Try.underlying29 sz3 rfl rfl qM (by first | rfl | omega | (simp; done)) qI qG ?_
      refine L.load rfl sc3 rfl qC ?_
      refine L.neI rfl rfl rfl ?_
      refine L.nilQ ?_
      refine T.thenN ?_
      refine T.condF rfl (by simp) ?_
      refine T.skip ?_
      refine T.blkN ?_
      refine T.thenN ?_
      refine T.region ?_
      refine L.addN rfl rfl rfl (by omega) ?_
      refine L.move rfl rfl ?_
      refine L.nil ?_
      refine T.thenN ?_
      exact T.back ⟨k + 1, (by omega), rfl, rfl, rfl, rfl⟩ qI (.cons (t := 109) rfl <| SubK.nil _) (.cons (t := 0) rfl <| .cons (t := 1) rfl <| .cons (t := 5) rfl <| .cons (t := 6) rfl <| .cons (t := 7) rfl <| .cons (t := 13) rfl <| .cons (t := 14) rfl <| .cons (t := 108) rfl <| SubK.nil _) qD qD qF
    · try simp only [decide_eq_true_eq, decide_eq_false_iff_not, Bool.not_eq_true', Bool.not_eq_false', Bool.and_eq_true, Bool.or_eq_true] at h110
      skip
      refine T.exit ?_
      refine T.thenX ?_
      refine T.thenX ?_
      refine T.blkX ?_
      refine T.blkN ?_
      refine T.thenN ?_
      refine T.region ?_
      refine L.move rfl rfl ?_
      refine L.addN rfl rfl rfl (by omega) ?_
      refine L.assign rfl rfl ?_
      refine L.nil ?_
      refine T.thenN ?_
      exact T.back ⟨i + 1, _, _, _, t2, l2, ⟨⟨by omega, by omega⟩, hR2, hl2, hn62⟩, rfl, rfl, rfl, rfl⟩ qI (.cons (t := 7) rfl <| .cons (t := 6) rfl <| SubK.nil _) (.cons (t := 0) rfl <| .cons (t := 1) rfl <| .cons (t := 5) rfl <| SubK.nil _) qD qD qF
  · try simp only [decide_eq_true_eq, decide_eq_false_iff_not, Bool.not_eq_true', Bool.not_eq_false', Bool.and_eq_true, Bool.or_eq_true] at h33
    clear hw h33
    refine T.exit ?_
    refine T.thenX ?_
    refine T.thenX ?_
    refine T.blkX ?_
    refine T.thenN ?_
    refine T.seq ?_
    refine T.region ?_
    refine L.makeMap S iK rfl (fun nb => ?_)
    refine L.assign rfl rfl ?_
    refine L.nil ?_
    refine T.thenN ?_
    refine T.seq ?_
    refine T.seq ?_
    refine T.region ?_
    refine L.move rfl rfl ?_
    refine L.lenSl rfl Try.underlying40 rfl ?_
    refine L.move rfl rfl ?_
    refine L.nil ?_
    refine T.thenN ?_
    refine T.block ?_
    refine T.loop (fun K' D' M' μ => ∃ (j : Nat) (nm : List (List UInt8 × Int)), (j ≤ n6 ∧ NmI l j nm) ∧ K' = [(125, .int .i64 (j : Int))] ∧ D' = [] ∧ M' = [mp nb S iK nm] ∧ μ = n6 - j) (.cons (t := 5) rfl <| .cons (t := 16) rfl <| .cons (t := 123) rfl <| .cons (t := 124) rfl <| SubK.nil _) (⟨0, [], ⟨Nat.zero_le _, NmI.zero l⟩, rfl, rfl, rfl, rfl⟩) (.cons (t := 125) rfl <| SubK.nil _) qD qS ?_
    rintro K1 D1 M1 m1 ⟨j, nm, ⟨hj, hN⟩, rfl, rfl, rfl, rfl⟩
    refine T.norm3 qA qA qA ?_
    refine T.seq ?_
    refine T.region ?_
    refine L.ltI rfl rfl rfl ?_
    refine L.nil ?_
    refine T.thenN ?_
    refine T.seq ?_
    refine T.cond rfl (fun h126 => ?_) (fun h126 => ?_)
    · try simp only [decide_eq_true_eq, decide_eq_false_iff_not, Bool.not_eq_true', Bool.not_eq_false', Bool.and_eq_true, Bool.or_eq_true] at h126
      refine T.skip ?_
      refine T.thenN ?_
      refine T.seq ?_
      refine T.block ?_
      refine T.seq ?_
      have hgi : l[j]? = some (gd l j) := gd_get (by omega)
      obtain ⟨x, hx_⟩ : ∃ z, z = gd l j := ⟨_, rfl⟩
      rw [← hx_] at hgi
      clear hx_
      have hgr : (l.map poR)[j]? = some (poR x) := map_get hgi
      refine T.region ?_
      refine L.idx (i := j) rfl Try.underlying40 sz52 rfl rfl qM (by first | rfl | omega | (simp; done)) qG (fun b127 o127 => ?_)
      refine L.loadA rfl ag52 rfl (CellsN.ofD qM (poR_len _)) ?_
      refine L.alloc rfl ze52 (fun b18 => ?_)
      refine L.storeA ag52 rfl rfl qL qO qU qW ?_
      refine L.nil ?_
      refine T.freeze (A := cl b18 52 (poR x)) qP ?_
      refine T.thenN ?_
      have hnv := hN.get x.1.1
      refine T.region ?_
      refine L.move rfl rfl ?_
      first | refine L.field0 rfl fo52_0 rfl ?_ | refine L.field rfl fo52_0 rfl ?_
      refine L.load rfl sc9 rfl qC ?_
      refine L.lookup1 (kenc := S) (venc := iK) (b := nb) (l := nm) (k := x.1.1) rfl Try.underlying50 (keyT_str Try.underlying9) zv3 rfl rfl qM ?_
      refine L.known (t := 132) (u := .int .i64 ((look nm x.1.1).getD 0)) rfl (by cases look nm x.1.1 <;> rfl) ?_
      refine L.addN rfl rfl rfl (by omega) ?_
      refine L.mapUpdate (kenc := S) (venc := iK) (b := nb) (l := nm) (k := x.1.1) (v := (look nm x.1.1).getD 0 + 1) Try.underlying50 (keyT_str Try.underlying9) rfl rfl rfl rfl qP ?_
      refine L.nil ?_
      refine T.blkN ?_
      refine T.thenN ?_
      refine T.region ?_
      refine L.addN rfl rfl rfl (by omega) ?_
      refine L.move rfl rfl ?_
      refine L.nil ?_
      refine T.thenN ?_
      exact T.back ⟨j + 1, put nm x.1.1 ((look nm x.1.1).getD 0 + 1), ⟨by omega, hN.step hgi⟩, rfl, rfl, rfl, rfl⟩ qI (.cons (t := 125) rfl <| SubK.nil _) (.cons (t := 5) rfl <| .cons (t := 16) rfl <| .cons (t := 123) rfl <| .cons (t := 124) rfl <| SubK.nil _) qD qD qF
    · try simp only [decide_eq_true_eq, decide_eq_false_iff_not, Bool.not_eq_true', Bool.not_eq_false', Bool.and_eq_true, Bool.or_eq_true] at h126
      obtain rfl : l.length = j := by omega
      have hF := hN.fin
      have hnms := hR.nms
      refine T.exit ?_
      refine T.thenX ?_
      refine T.thenX ?_
      refine T.blkX ?_
      refine T.thenN ?_
      refine T.seq ?_
      refine T.region ?_
      refine L.move rfl rfl ?_
      refine L.call rfl (evs.cons rfl <| evs.nil) qD qS (namesG_spec (b := sb) (tm := sm) (t := t) (by have := hR.t64; omega)) ?_
      rintro _ _ _ ⟨na, nn, nc, us, rfl, hus, hun, rfl, rfl⟩
      refine L.norm qA qA ?_
      have hul := hus.len
      rw [List.length_map] at hul
      have ht64 := hR.t64
      refine L.ownRsl (rows := us.map iC) qP ?_
      refine L.assign rfl rfl ?_
      refine L.nil ?_
      refine T.thenN ?_
      refine T.seq ?_
      refine T.seq ?_
      refine T.region ?_
      refine L.move rfl rfl ?_
      refine L.lenSl rfl Try.underlying34 rfl ?_
      refine L.move rfl rfl ?_
      refine L.nil ?_
      refine T.thenN ?_
      refine T.block ?_
      refine T.loop (fun K' D' M' μ => ∃ (i : Nat), (i ≤ nn) ∧ K' = [(139, .int .i64 (i : Int))] ∧ D' = [] ∧ M' = [] ∧ μ = nn - i) (.cons (t := 16) rfl <| .cons (t := 19) rfl <| .cons (t := 137) rfl <| .cons (t := 138) rfl <| SubK.nil _) (⟨0, Nat.zero_le _, rfl, rfl, rfl, rfl⟩) (.cons (t := 139) rfl <| SubK.nil _) qD qS ?_
      rintro K1 D1 M1 m1 ⟨i, hi3, rfl, rfl, rfl, rfl⟩
      refine T.norm3 qA qA qA ?_
      refine T.seq ?_
      refine T.region ?_
      refine L.ltI rfl rfl rfl ?_
      refine L.nil ?_
      refine T.thenN ?_
      refine T.seq ?_
      refine T.cond rfl (fun h140 => ?_) (fun h140 => ?_)
      · try simp only [decide_eq_true_eq, decide_eq_false_iff_not, Bool.not_eq_true', Bool.not_eq_false', Bool.and_eq_true, Bool.or_eq_true] at h140
        refine T.skip ?_
        refine T.thenN ?_
        refine T.seq ?_
        refine T.block ?_
        refine T.seq ?_
        have hgy : us[i]? = some (gd us i) := gd_get (by omega)
        obtain ⟨y, hy_⟩ : ∃ z, z = gd us i := ⟨_, rfl⟩
        rw [← hy_] at hgy
        have hgyr : (us.map iC)[i]? = some (iC y) := map_get hgy
        have hy3 := iC_len y
        have hy32 := y.2
        have hyi : y ∈ idsP l := (hR.ids y).2 ((hus.mem y).1 (List.mem_of_getElem? hgy))
        have hnz := hF.2 y hyi
        refine T.region ?_
        refine L.move rfl rfl ?_
        refine L.idx (i := i) rfl Try.underlying34 sz28 rfl rfl qM (by first | rfl | omega | (simp; done)) qG (fun b142 o142 => ?_)
        refine L.loadA rfl ag28 rfl (CellsN.ofD qM hy3) ?_
        refine L.alloc rfl ze28 (fun b21 => ?_)
        refine L.assign rfl rfl ?_
        refine L.storeA ag28 rfl rfl qL qO qU qW ?_
        refine L.nil ?_
        refine T.freeze (A := cl b21 28 (iC y)) qP ?_
        refine T.thenN ?_
        refine T.seq ?_
        rcases Nat.eq_zero_or_pos i with h0 | h0
        · skip
          refine T.regionQ (by kernel_rfl) (by kernel_rfl) ?_
          refine L.move rfl rfl ?_
          refine L.loadA rfl ag28 rfl (CellsN.ofF qM (AtN.all hy3)) ?_
          refine L.callF rfl (evs.cons rfl <| evs.nil) qD qS (obytes_spec (l := y.1) hy32) (by rintro u D1 M1 ⟨rfl, rfl, rfl⟩; exact ⟨rfl, _, qA, qF⟩) ?_
          refine L.lookup1 (kenc := S) (venc := iK) (b := nb) (l := nm) (k := y.1) rfl Try.underlying50 (keyT_str Try.underlying9) zv3 rfl rfl qM ?_
          refine L.known (t := 147) (u := .int .i64 ((look nm y.1).getD 0)) rfl (by cases look nm y.1 <;> rfl) ?_
          refine L.eqI rfl rfl rfl ?_
          refine L.move rfl rfl ?_
          refine L.known (t := 149) rfl (show _ = Value.bool false from congrArg Value.bool (decide_eq_false hnz)) ?_
          refine L.guardT (dj := 149) rfl rfl rfl ?_
          refine L.move rfl rfl ?_
          refine L.guardT (dj := 149) rfl rfl rfl ?_
          refine L.gtI rfl rfl rfl ?_
          refine L.guardT (dj := 149) rfl rfl rfl ?_
          refine L.move rfl rfl ?_
          refine L.known (t := 152) rfl (show _ = Value.bool false from congrArg Value.bool (decide_eq_false (by omega))) ?_
          refine L.guardF (dj := 152) (c := false) rfl rfl rfl rfl rfl (by decide) ?_
          refine L.guardF (dj := 152) (c := false) rfl rfl rfl rfl rfl (by decide) ?_
          refine L.guardF (dj := 152) (c := false) rfl rfl rfl rfl rfl (by decide) ?_
          refine L.guardF (dj := 152) (c := false) rfl rfl rfl rfl rfl (by decide) ?_
          refine L.guardF (dj := 152) (c := false) rfl rfl rfl rfl rfl (by decide) ?_
          refine L.guardF (dj := 152) (c := false) rfl rfl rfl rfl rfl (by decide) ?_
          refine L.guardF (dj := 152) (c := false) rfl rfl rfl rfl rfl (by decide) ?_
          refine L.guardF (dj := 152) (c := false) rfl rfl rfl rfl rfl (by decide) ?_
          refine L.guardT (dj := 149) rfl rfl rfl ?_
          refine L.pickF rfl rfl rfl ?_
          refine L.pickF rfl rfl rfl ?_
          refine L.nilQ ?_
          refine T.thenN ?_
          refine T.condF rfl rfl ?_
          refine T.skip ?_
          refine T.blkN ?_
          refine T.thenN ?_
          refine T.region ?_
          refine L.addN rfl rfl rfl (by omega) ?_
          refine L.move rfl rfl ?_
          refine L.nil ?_
          refine T.thenN ?_
          exact T.back ⟨i + 1, (by omega), rfl, rfl, rfl, rfl⟩ qI (.cons (t := 139) rfl <| SubK.nil _) (.cons (t := 16) rfl <| .cons (t := 19) rfl <| .cons (t := 137) rfl <| .cons (t := 138) rfl <| SubK.nil _) qD qD qF
        · skip
          have hgp : us[i - 1]? = some (gd us (i - 1)) := gd_get (by omega)
          have hgpr : (us.map iC)[i - 1]? = some (iC (gd us (i - 1))) := map_get hgp
          have hlt := asc_pair hus.asc hgp hgy (by omega)
          refine T.rslAddr (a := na) (rows := us.map iC) qM (fun e => by have := congrArg List.length e; rw [List.length_map] at this; simp only [List.length_nil] at this; omega) (fun nb_ no_ ha => ?_)
          subst ha
          refine T.regionQ (by kernel_rfl) (by kernel_rfl) ?_
          refine L.move rfl rfl ?_
          refine L.loadA rfl ag28 rfl (CellsN.ofF qM (AtN.all hy3)) ?_
          refine L.callF rfl (evs.cons rfl <| evs.nil) qD qS (obytes_spec (l := y.1) hy32) (by rintro u D1 M1 ⟨rfl, rfl, rfl⟩; exact ⟨rfl, _, qA, qF⟩) ?_
          refine L.lookup1 (kenc := S) (venc := iK) (b := nb) (l := nm) (k := y.1) rfl Try.underlying50 (keyT_str Try.underlying9) zv3 rfl rfl qM ?_
          refine L.known (t := 147) (u := .int .i64 ((look nm y.1).getD 0)) rfl (by cases look nm y.1 <;> rfl) ?_
          refine L.eqI rfl rfl rfl ?_
          refine L.move rfl rfl ?_
          refine L.known (t := 149) rfl (show _ = Value.bool false from congrArg Value.bool (decide_eq_false hnz)) ?_
          refine L.guardT (dj := 149) rfl rfl rfl ?_
          refine L.move rfl rfl ?_
          refine L.guardT (dj := 149) rfl rfl rfl ?_
          refine L.gtI rfl rfl rfl ?_
          refine L.guardT (dj := 149) rfl rfl rfl ?_
          refine L.move rfl rfl ?_
          refine L.known (t := 152) rfl (show _ = Value.bool true from congrArg Value.bool (decide_eq_true (by omega))) ?_
          refine L.guardT (dj := 152) rfl rfl rfl ?_
          refine L.move rfl rfl ?_
          refine L.guardT (dj := 152) rfl rfl rfl ?_
          refine L.move rfl rfl ?_
          refine L.guardT (dj := 152) rfl rfl rfl ?_
          refine L.subN rfl rfl rfl (by omega) ?_
          refine L.guardT (dj := 152) rfl rfl rfl ?_
          refine L.idxR (i := i - 1) rfl Try.underlying34 sz28 rfl rfl qM (by first | rfl | omega | (simp; done)) qI qG ?_
          refine L.guardT (dj := 152) rfl rfl rfl ?_
          refine L.loadA rfl ag28 rfl (CellsN.ofD qM (iC_len _)) ?_
          refine L.guardT (dj := 152) rfl rfl rfl ?_
          refine L.loadA rfl ag28 rfl (CellsN.ofF qM (AtN.all hy3)) ?_
          refine L.guardT (dj := 152) rfl rfl rfl ?_
          refine L.callF rfl (evs.cons rfl <| evs.cons rfl <| evs.nil) qD qS (ocmp_spec (x := gd us (i - 1)) (y := y)) (by rintro u D1 M1 ⟨rfl, rfl, rfl⟩; exact ⟨rfl, _, qA, qF⟩) ?_
          refine L.guardT (dj := 152) rfl rfl rfl ?_
          refine L.geI rfl rfl rfl ?_
          refine L.guardT (dj := 149) rfl rfl rfl ?_
          refine L.pickT rfl rfl rfl ?_
          refine L.pickF rfl rfl rfl ?_
          refine L.nilQ ?_
          refine T.thenN ?_
          refine T.condF rfl (by first | rfl | exact decide_eq_false hlt) ?_
          refine T.skip ?_
          refine T.blkN ?_
          refine T.thenN ?_
          refine T.region ?_
          refine L.addN rfl rfl rfl (by omega) ?_
          refine L.move rfl rfl ?_
          refine L.nil ?_
          refine T.thenN ?_
          exact T.back ⟨i + 1, (by omega), rfl, rfl, rfl, rfl⟩ qI (.cons (t := 139) rfl <| SubK.nil _) (.cons (t := 16) rfl <| .cons (t := 19) rfl <| .cons (t := 137) rfl <| .cons (t := 138) rfl <| SubK.nil _) qD qD qF
      · try simp only [decide_eq_true_eq, decide_eq_false_iff_not, Bool.not_eq_true', Bool.not_eq_false', Bool.and_eq_true, Bool.or_eq_true] at h140
        obtain hiu : i = us.length := by omega
        refine T.exit ?_
        refine T.thenX ?_
        refine T.thenX ?_
        refine T.blkX ?_
        refine T.thenN ?_
        refine T.seq ?_
        refine T.region ?_
        refine L.move rfl rfl ?_
        refine L.lenSl rfl Try.underlying34 rfl ?_
        refine L.move rfl rfl ?_
        refine L.lenMap (l := nm) rfl Try.underlying50 rfl qM ?_
        refine L.eqI rfl rfl rfl ?_
        refine L.assign rfl rfl ?_
        refine L.nil ?_
        refine T.thenN ?_
        refine T.ret ?_
        exact T.ret1 rfl rfl ⟨congrArg Value.bool (decide_eq_true (by omega)), rfl, rfl⟩ qD qF
end Cv
