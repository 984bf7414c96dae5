/-
  The walks: the law that any calls do what they should.
-/
import Derived.Test.YtcfhpmijippbmaaGreatSe25
import Derived.Test.YtcfhpmijippbmaaGreatCvLf
import Derived.Test.YtcfhpmijippbmaaGreatProg
import Derived.KernelRfl
set_option linter.unusedVariables false
set_option linter.unusedSimpArgs false
set_option linter.unusedSectionVars false
set_option maxRecDepth 10000
namespace Cv
open Go Go.Proofs
/-! ## acts as arguments -/
def aA1 (z : AR25) : Asn := fun h => rsl 1 z.2.1.1 z.2.1.2.1 z.2.1.2.2.1 (z.2.1.2.2.2.map e3) h ∧ rsl 1 z.2.2.1.1 z.2.2.1.2.1 z.2.2.1.2.2.1 (z.2.2.1.2.2.2.map e3) h ∧ z.2.1.2.1 ≤ 9223372036854775807 ∧ z.2.2.1.2.1 ≤ 9223372036854775807
def aA (zs : List AR25) : Asn := fun h => ∀ z ∈ zs, aA1 z h
section
variable {H : Type} {enc : TypeId × Value → H} {W : World} {base : Nat} {sp : Nat → Bool} {held : Bool}
theorem el_sl2 {n : Nat} {cs : List Value} {y : DataW H × List MemPlace} (h : DataW.trod enc Tryz.prog W base sp held n 39 cs = some y) :
    ∃ z : SL, cs = slE z ∧ rsl 1 z.1 z.2.1 z.2.2.1 (z.2.2.2.map e3) (hp W) ∧ z.2.1 ≤ 9223372036854775807 := by
  have hcs : ∃ a len cap, cs = [.slice a len cap] ∧ len ≤ 9223372036854775807 := by
    rcases Deep.open_slice Tryz.underlying39 h with ⟨h1, _⟩ | ⟨ad, len, cap, _, _, _, _, h1, _, h2, h3, _⟩
    · exact ⟨_, _, _, h1, by omega⟩
    · have : maxLen = 9223372036854775807 := rfl
      exact ⟨_, _, _, h1, by omega⟩
  obtain ⟨a, len, cap, rfl, hle⟩ := hcs
  obtain ⟨xs, h1, _⟩ := arg_slice (sz := 1) e3 g3 Tryz.underlying39 (by kernel_rfl) (by decide) (fun h => el3z h) (by simpa [Value.cells] using h)
  exact ⟨(a, len, cap, xs), rfl, h1, hle⟩
theorem el_act {n : Nat} {cs : List Value} {y : DataW H × List MemPlace} (h : DataW.trod enc Tryz.prog W base sp held n 41 cs = some y) : ∃ z : AR25, cs = aE z ∧ aA1 z (hp W) := by
  obtain ⟨xs, m, -, -, hl, hx, hf⟩ := DataW.trod_struct Tryz.underlying41 h
  rw [show Tryz.prog.cellsOf 41 = 6 from by kernel_rfl] at hl
  match cs, hl with
  | [c0, c1, c2, c3, c4, c5], _ =>
    obtain ⟨y0, h0⟩ := Cv.el_field (o := 0) hx hf 0 _ rfl rfl (show Tryz.prog.cellsOf 3 = 1 from by kernel_rfl)
    obtain ⟨n0, e0, -⟩ := el3z h0
    obtain ⟨y1, h1⟩ := Cv.el_field (o := 1) hx hf 1 _ rfl rfl (show Tryz.prog.cellsOf 3 = 1 from by kernel_rfl)
    obtain ⟨n1, e1, -⟩ := el3z h1
    obtain ⟨y2, h2⟩ := Cv.el_field (o := 2) hx hf 2 _ rfl rfl (show Tryz.prog.cellsOf 3 = 1 from by kernel_rfl)
    obtain ⟨n2, e2, -⟩ := el3z h2
    obtain ⟨y3, h3⟩ := Cv.el_field (o := 3) hx hf 3 _ rfl rfl (show Tryz.prog.cellsOf 39 = 1 from by kernel_rfl)
    obtain ⟨z3, e3', r3, b3⟩ := el_sl2 h3
    obtain ⟨y4, h4⟩ := Cv.el_field (o := 4) hx hf 4 _ rfl rfl (show Tryz.prog.cellsOf 39 = 1 from by kernel_rfl)
    obtain ⟨z4, e4', r4, b4⟩ := el_sl2 h4
    obtain ⟨y5, h5⟩ := Cv.el_field (o := 5) hx hf 5 _ rfl rfl (show Tryz.prog.cellsOf 9 = 1 from by kernel_rfl)
    obtain ⟨n5, e5, -⟩ := el9z h5
    simp only [e3, e9, slE, List.drop, List.take, List.cons.injEq, and_true] at e0 e1 e2 e3' e4' e5
    subst e0; subst e1; subst e2; subst e3'; subst e4'; subst e5
    exact ⟨((n0, n1, n2), z3, z4, n5), rfl, r3, r4, b3, b4⟩
end
def sS0 : SS := ⟨[], [], [], [], 0, 0⟩
def JQ (s : SS) (z : AR25) : Prop := z.1.1 = 2 ∧ 0 < s.ol.length ∧ (gd s.ol (pickN s.ol z.1.2.1)).2.1 = 5
theorem bu34 : Bu Tryz.prog 34 [Value.int .i64 0, Value.int .i64 0, Value.slice none 0 0, Value.slice none 0 0, Value.slice none 0 0] (fun (i : Nat) => ([(0, 1), (1, 1), (2, 1), (3, 1), (4, 1)] : List (Nat × Nat))[i]?) := bu_of Tryz.underlying34 zv34 rfl (fun w => by kernel_rfl)
theorem bu36 : Bu Tryz.prog 36 [Value.pointer none, Value.int .i64 0, Value.int .i64 0, Value.slice none 0 0, Value.slice none 0 0, Value.slice none 0 0, Value.int .i64 0] (fun (i : Nat) => ([(0, 1), (1, 5), (6, 1)] : List (Nat × Nat))[i]?) := bu_of Tryz.underlying36 zv36 rfl (fun w => by kernel_rfl)
theorem sz41 : Sz Tryz.prog 41 6 := fun w => by kernel_rfl
set_option maxHeartbeats 400000 in
theorem open2_spec {b bb q on oc lm : Nat} {o sq : Int} {oa : Option Addr} {ol : List Ord} {F : Int → Mind} {lk : List (LK × Int)} (hon : on ≤ 1000000) : Spec Tryz.prog 9 [.pointer (some ⟨b, 0, none⟩)] [] [cl b 59 (swC bb q o oa on oc lm sq), own 37 96 oa on oc ((ol).map oC)] (fun v D' M' => ∃ (a' : Option Addr) (n' c' : Nat), v = .slice a' n' c' ∧ (ol.length = n') ∧ D' = [] ∧ M' = [cl b 59 (swC bb q o oa on oc lm sq), own 37 96 oa on oc ((ol).map oC), own 34 52 a' n' c' (ol.map fun x => wC x.1)]) := by
  refine Spec.intro (n := 22) Tryz.func9 rfl rfl (by decide) (Nat.le_of_ble_eq_true rfl) rfl (fun _ => qA) (fun _ => qA) ?_
  intro σ D M
  refine T.ownLen (rows := ol.map oC) qM (fun hLl hLc => ?_)
  rw [List.length_map] at hLl
  refine T.seq ?_
  refine T.region ?_
  refine L.assign rfl rfl ?_
  refine L.nil ?_
  refine T.thenN ?_
  refine T.seq ?_
  refine T.region ?_
  refine L.assign rfl rfl ?_
  refine L.nil ?_
  refine T.newOwn (sz := 34) (e := 52) ?_
  refine T.thenN ?_
  refine T.seq ?_
  refine T.seq ?_
  refine T.region ?_
  refine L.move rfl rfl ?_
  refine L.nilCheck rfl rfl ?_
  first | refine L.field0 rfl fo59_3 rfl ?_ | refine L.field rfl fo59_3 rfl ?_
  refine L.load rfl sc56 rfl qC ?_
  refine L.lenSl rfl Tryz.underlying56 rfl ?_
  refine L.move rfl rfl ?_
  refine L.nil ?_
  refine T.thenN ?_
  refine T.block ?_
  refine T.eqv qP (show own 34 52 none 0 0 [] = own 34 52 none 0 0 ((ol.take 0).map fun x => wC x.1) from by rw [List.take_zero]; rfl) ?_
  refine T.loop (fun K' D' M' μ => ∃ (j : Nat) (a3 : Option Addr) (c3 : Nat), (j ≤ on) ∧ K' = [(11, .int .i64 j), (3, .slice a3 j c3)] ∧ D' = [] ∧ M' = [own 34 52 a3 j c3 ((ol.take j).map fun x => wC x.1)] ∧ μ = on - j) (.cons (t := 9) rfl <| .cons (t := 10) rfl <| SubK.nil _) (⟨0, none, 0, Nat.zero_le _, rfl, rfl, rfl, rfl⟩) (.cons (t := 11) rfl <| .cons (t := 3) rfl <| SubK.nil _) qD qS ?_
  rintro K1 D1 M1 m1 ⟨j, a3, c3, hj, rfl, rfl, rfl, rfl⟩
  refine T.norm3 qA qA qA ?_
  refine T.seq ?_
  refine T.region ?_
  refine L.ltI rfl rfl rfl ?_
  refine L.nil ?_
  refine T.thenN ?_
  refine T.seq ?_
  refine T.cond rfl (fun h12 => ?_) (fun h12 => ?_)
  · try simp only [decide_eq_true_eq, decide_eq_false_iff_not, Bool.not_eq_true', Bool.not_eq_false', Bool.and_eq_true, Bool.or_eq_true] at h12
    refine T.ownNe (a := oa) qM (by omega) (fun pb po ha_ => ?_)
    subst ha_
    refine T.skip ?_
    refine T.thenN ?_
    refine T.seq ?_
    refine T.block ?_
    refine T.seq ?_
    have hgj : ol[j]? = some (gd ol j) := gd_get (by omega)
    obtain ⟨x, hx_⟩ : ∃ x, x = gd ol j := ⟨_, rfl⟩
    rw [← hx_] at hgj
    have hxl := oC_len x
    have hx32 := x.1.2.1.2
    have hwl := wC_len x.1
    refine T.region ?_
    refine L.idxG (i := j) rfl Tryz.underlying56 sz96 rfl rfl (by first | rfl | omega | (simp; done)) qI ?_
    refine L.loadA rfl ag96 rfl (CellsN.ofOwn qM (map_get hgj) (oC_len _)) ?_
    refine L.alloc rfl ze96 (fun b5 => ?_)
    refine L.storeA ag96 rfl rfl qL qO qU qW ?_
    refine L.nil ?_
    refine T.thenN ?_
    refine T.region ?_
    refine L.move rfl rfl ?_
    first | refine L.field0 rfl fo96_0 rfl ?_ | refine L.field rfl fo96_0 rfl ?_
    refine L.loadA (vs := wC x.1) rfl ag52 rfl (CellsN.ofM qM ⟨wC_len _, wC_at x⟩) ?_
    refine L.buildSlice rfl bs42 (by decide) (BP.agg rfl rfl (by first | with_reducible assumption | (simp; done) | (simp only [List.length_map]; with_reducible assumption) | (simp [*]; done) | rfl) (Nat.le_of_ble_eq_true rfl) qR <| BP.doneE (out := []) rfl) (fun b18 => ?_)
    have hwl := wC_len x.1
    refine L.append1 rfl Tryz.underlying42 el52 rfl rfl qP qM (by rw [List.append_nil]; exact wC_len _) (fun u hu => by rw [List.append_nil] at hu; exact one_wnt u hu) qI qI (fun a19 c19 => ?_)
    refine L.assign rfl rfl ?_
    refine L.nil ?_
    refine T.blkN ?_
    refine T.thenN ?_
    refine T.region ?_
    refine L.addN rfl rfl rfl (by omega) ?_
    refine L.move rfl rfl ?_
    refine L.nil ?_
    refine T.thenN ?_
    refine T.ownEq a19 ((ol.take (j + 1)).map fun x => wC x.1) qP (by rw [List.take_add_one, hgj, List.map_append, List.append_nil]; rfl) ?_
    exact T.back ⟨j + 1, _, _, (by omega), rfl, rfl, rfl, rfl⟩ qI (.cons (t := 11) rfl <| .cons (t := 3) rfl <| SubK.nil _) (.cons (t := 9) rfl <| .cons (t := 10) rfl <| SubK.nil _) qD qD qF
  · try simp only [decide_eq_true_eq, decide_eq_false_iff_not, Bool.not_eq_true', Bool.not_eq_false', Bool.and_eq_true, Bool.or_eq_true] at h12
    obtain rfl : on = j := by omega
    refine T.ownEq a3 (ol.map fun x => wC x.1) qP (by rw [List.take_of_length_le (by omega)]) ?_
    refine T.exit ?_
    refine T.thenX ?_
    refine T.thenX ?_
    refine T.blkX ?_
    refine T.thenN ?_
    refine T.seq ?_
    refine T.region ?_
    refine L.move rfl rfl ?_
    refine L.assign rfl rfl ?_
    refine L.nil ?_
    refine T.thenN ?_
    refine T.ret ?_
    exact T.ret1 rfl rfl ⟨_, _, _, rfl, hLl, rfl, rfl⟩ qD qF
set_option maxHeartbeats 1000000 in
theorem swapplays_law (za : Option Addr) (zn zc : Nat) (zs : List AR25) (hz : zs.length = zn)  : Spec Tryz.prog 3 [.slice za zn zc] [rsl 6 za zn zc (zs.map aE), aA zs] [] (fun v D' M' => v = .bool true ∧ D' = [] ∧ M' = []) := by
  refine Spec.intro (n := 126) Tryz.func3 rfl rfl (by decide) (Nat.le_of_ble_eq_true rfl) rfl (fun _ => qA) (fun _ => qA) ?_
  intro σ D M
  skip
  refine T.seq ?_
  refine T.region ?_
  refine L.assign rfl rfl ?_
  refine L.nil ?_
  refine T.thenN ?_
  refine T.seq ?_
  refine T.seq ?_
  refine T.region ?_
  refine L.call rfl (evs.nil) qD qS (awake25_spec) ?_
  rintro _ _ _ ⟨rfl, rfl, rfl⟩
  refine L.norm qA qA ?_
  refine L.notB rfl rfl ?_
  refine L.nil ?_
  refine T.thenN ?_
  refine T.condF rfl rfl ?_
  refine T.skip ?_
  refine T.thenN ?_
  refine T.seq ?_
  refine T.region ?_
  refine L.build rfl bu29 (BP.one rfl rfl rfl <| BP.one rfl rfl rfl <| BP.doneE (out := []) rfl) ?_
  refine L.call rfl (evs.cons rfl <| evs.cons rfl <| evs.nil) qD qS (wnew_spec) ?_
  rintro _ _ _ ⟨b, bb, q, lm, rfl, rfl, rfl⟩
  refine L.norm qA qA ?_
  refine L.eqv qP (show bookA bb (fun _ => zM) = bookA bb (atM ([] : List (Int × Mind))) from rfl) ?_
  refine L.move rfl rfl ?_
  refine L.extract rfl rfl rfl ?_
  refine L.extract rfl rfl rfl ?_
  refine L.assign rfl rfl ?_
  refine L.assign rfl rfl ?_
  refine L.nil ?_
  refine T.thenN ?_
  refine T.seq ?_
  refine T.region ?_
  refine L.move rfl rfl ?_
  refine L.build rfl bu34 (BP.one rfl rfl rfl <| BP.doneE (out := [Value.int .i64 0, Value.slice none 0 0, Value.slice none 0 0, Value.slice none 0 0]) rfl) ?_
  refine L.build rfl bu36 (BP.one rfl rfl rfl <| BP.agg rfl rfl (by first | with_reducible assumption | (simp; done) | (simp only [List.length_map]; with_reducible assumption) | (simp [*]; done) | rfl) (Nat.le_of_ble_eq_true rfl) qR <| BP.doneE (out := [Value.int .i64 0]) rfl) ?_
  refine L.alloc rfl ze36 (fun b5 => ?_)
  refine L.storeA ag36 rfl rfl qL qO qU qW ?_
  refine L.nil ?_
  refine T.newOwn (sz := 6) (e := 47) ?_
  refine T.eqv qP (show own 6 47 none 0 0 [] = own 6 47 none 0 0 (([] : List Ord).map oR) from rfl) ?_
  refine T.ownRsl (rows := ([] : List Ord).map oR) qP ?_
  refine T.newOwn (sz := 3) (e := 141) ?_
  refine T.eqv qP (show own 3 141 none 0 0 [] = own 3 141 none 0 0 (([] : List (LK × Int)).map kR) from rfl) ?_
  refine T.ownRsl (rows := ([] : List (LK × Int)).map kR) qP ?_
  refine T.newOwn (sz := 8) (e := 108) ?_
  refine T.eqv qP (show own 8 108 none 0 0 [] = own 8 108 none 0 0 (([] : List (Int × Mind)).map rrow) from rfl) ?_
  refine T.ownRsl (rows := ([] : List (Int × Mind)).map rrow) qP ?_
  refine T.thenN ?_
  refine T.seq ?_
  refine T.region ?_
  refine L.move rfl rfl ?_
  refine L.eqI rfl rfl rfl ?_
  refine L.assign rfl rfl ?_
  refine L.nil ?_
  refine T.thenN ?_
  refine T.seq ?_
  refine T.seq ?_
  refine T.region ?_
  refine L.assign rfl rfl ?_
  refine L.nil ?_
  refine T.thenN ?_
  refine T.block ?_
  refine T.loop (fun K' D' M' μ => ∃ (i : Nat) (s : SS) (sa oa la ma : Option Addr) (sn sc on oc ln lc mn mc : Nat), ((i ≤ zn ∧ i ≤ 60) ∧ SInv s i) ∧ K' = [(6, .bool true), (7, .int .i64 i)] ∧ D' = [rsl 6 oa on oc (s.ol.map oR), rsl 3 la ln lc (s.ll.map kR), rsl 8 ma mn mc (s.ml.map rrow)] ∧ M' = [cl b5 36 (stC b 1 s.sq oa on oc la ln lc ma mn mc s.now), cl b 59 (swC bb q 1 sa sn sc lm s.sq), own 37 96 sa sn sc ((s.ol).map oC), bookA bb (atM s.ml), mp lm lkK iK s.lk] ∧ μ = 60 - i) (.cons (t := 0) rfl <| .cons (t := 5) rfl <| SubK.nil _) (⟨0, ⟨[], [], [], [], 0, 0⟩, none, none, none, none, 0, 0, 0, 0, 0, 0, 0, 0, ⟨by omega, SInv.init⟩, rfl, rfl, rfl, rfl⟩) (.cons (t := 6) rfl <| .cons (t := 7) rfl <| SubK.nil _) qD qS ?_
  rintro K1 D1 M1 m1 ⟨i, s, sa, oa, la, ma, sn, sc, on, oc, ln, lc, mn, mc, ⟨⟨hi, hi60⟩, hI0⟩, rfl, rfl, rfl, rfl⟩
  refine T.norm3 qA qA qA ?_
  refine T.seq ?_
  refine T.seq ?_
  refine T.cutC (fun K' D' M' => ∃ (w : Bool), (w = true ↔ (i < zn ∧ i < 60)) ∧ K' = [(34, .bool w)] ∧ D' = [] ∧ M' = []) (M0 := []) (.cons (t := 0) rfl <| .cons (t := 5) rfl <| .cons (t := 6) rfl <| .cons (t := 7) rfl <| SubK.nil _) qS ?_ ?_
  · skip
    refine T.region ?_
    refine L.move rfl rfl ?_
    refine L.move rfl rfl ?_
    refine L.known (t := 25) rfl (show _ = Value.bool true from rfl) ?_
    refine L.guardT (dj := 25) rfl rfl rfl ?_
    refine L.move rfl rfl ?_
    refine L.guardT (dj := 25) rfl rfl rfl ?_
    refine L.move rfl rfl ?_
    refine L.guardT (dj := 25) rfl rfl rfl ?_
    refine L.lenSl rfl Tryz.underlying22 rfl ?_
    refine L.guardT (dj := 25) rfl rfl rfl ?_
    refine L.ltI rfl rfl rfl ?_
    refine L.pickT rfl rfl rfl ?_
    refine L.move rfl rfl ?_
    refine L.part (t := 31) rfl (fun h1 => ?_) (fun h1 => ?_)
    · try simp only [decide_eq_true_eq, decide_eq_false_iff_not, Bool.not_eq_true', Bool.not_eq_false', Bool.and_eq_true, Bool.or_eq_true] at h1
      refine L.guardT (dj := 31) rfl rfl rfl ?_
      refine L.move rfl rfl ?_
      refine L.guardT (dj := 31) rfl rfl rfl ?_
      refine L.ltI rfl rfl rfl ?_
      refine L.pickT rfl rfl rfl ?_
      refine L.nil ?_
      refine T.thenN ?_
      exact T.toJoin ⟨_, (by simp; omega), rfl, rfl, rfl⟩ (.cons (t := 34) rfl <| SubK.nil _) (.cons (t := 0) rfl <| .cons (t := 5) rfl <| .cons (t := 6) rfl <| .cons (t := 7) rfl <| SubK.nil _) qD qD qF
    · try simp only [decide_eq_true_eq, decide_eq_false_iff_not, Bool.not_eq_true', Bool.not_eq_false', Bool.and_eq_true, Bool.or_eq_true] at h1
      refine L.guardF (dj := 31) (c := false) rfl rfl rfl rfl rfl (by decide) ?_
      refine L.guardF (dj := 31) (c := false) rfl rfl rfl rfl rfl (by decide) ?_
      refine L.pickF rfl rfl rfl ?_
      refine L.nil ?_
      refine T.thenN ?_
      exact T.toJoin ⟨_, (by simp; omega), rfl, rfl, rfl⟩ (.cons (t := 34) rfl <| SubK.nil _) (.cons (t := 0) rfl <| .cons (t := 5) rfl <| .cons (t := 6) rfl <| .cons (t := 7) rfl <| SubK.nil _) qD qD qF
  rintro _ _ _ ⟨w, hw, rfl, rfl, rfl⟩
  refine T.norm3 qA qA qA ?_
  refine T.thenN ?_
  refine T.cond rfl (fun h34 => ?_) (fun h34 => ?_)
  · try simp only [decide_eq_true_eq, decide_eq_false_iff_not, Bool.not_eq_true', Bool.not_eq_false', Bool.and_eq_true, Bool.or_eq_true] at h34
    have hwt := hw.1 h34
    have hgi : zs[i]? = some (gd zs i) := gd_get (by omega)
    obtain ⟨z, hzz⟩ : ∃ x, x = gd zs i := ⟨_, rfl⟩
    rw [← hzz] at hgi
    have hgz : (zs.map aE)[i]? = some (aE z) := map_get hgi
    refine T.derive (φ := aA zs) (ψ := rsl 1 z.2.1.1 z.2.1.2.1 z.2.1.2.2.1 (z.2.1.2.2.2.map e3)) qM (fun h H => (H z (List.mem_of_getElem? hgi)).1) ?_
    refine T.derive (φ := aA zs) (ψ := rsl 1 z.2.2.1.1 z.2.2.1.2.1 z.2.2.1.2.2.1 (z.2.2.1.2.2.2.map e3)) qM (fun h H => (H z (List.mem_of_getElem? hgi)).2.1) ?_
    refine T.fact (φ := aA zs) qM (fun h H => (H z (List.mem_of_getElem? hgi)).2.2) (fun hzb => ?_)
    obtain ⟨hz1, hz2⟩ := hzb
    refine T.skip ?_
    refine T.thenN ?_
    refine T.seq ?_
    refine T.block ?_
    refine T.seq ?_
    refine T.rslAddr (a := za) (rows := zs.map aE) qM (fun e => by have h2 := congrArg List.length e; rw [List.length_map, List.length_nil] at h2; omega) (fun pz qz hza => ?_)
    subst hza
    refine T.regionA (clsL [0, 1, 1, 1, 0, 2, 1, 1, 1, 2, 1]) (by kernel_rfl) ?_
    refine A.takeP (i := 1) rfl rfl rfl rfl (by kernel_rfl) (by kernel_rfl) (by kernel_rfl) rfl qD ?_
    refine L.move rfl rfl ?_
    refine A.took ?_
    refine A.takeP (i := 2) rfl rfl rfl rfl (by kernel_rfl) (by kernel_rfl) (by kernel_rfl) rfl qD ?_
    refine L.move rfl rfl ?_
    refine A.took ?_
    refine A.takeP (i := 3) rfl rfl rfl rfl (by kernel_rfl) (by kernel_rfl) (by kernel_rfl) rfl qD ?_
    refine L.idxG (i := i) rfl Tryz.underlying22 sz41 rfl rfl (by first | rfl | omega | (simp; done)) qI ?_
    refine A.took ?_
    refine A.take (i := 0) rfl rfl rfl rfl (by kernel_rfl) (by kernel_rfl) (by kernel_rfl) (by kernel_rfl) rfl qD qF ?_
    refine L.loadA rfl ag36 rfl qN ?_
    refine A.took ?_
    refine A.take (i := 4) rfl rfl rfl rfl (by kernel_rfl) (by kernel_rfl) (by kernel_rfl) (by kernel_rfl) rfl qD qF ?_
    refine L.loadA rfl ag41 rfl qN ?_
    refine A.took ?_
    refine A.branch (is := [5]) (by kernel_rfl) (by decide) (Each.cons rfl ?_ <| Each.nil) 
    refine L.call rfl (evs.cons rfl <| evs.cons rfl <| evs.nil) qD qS (does_spec (i := i) (s := s) (z := z) hI0 (by omega) hz1 hz2) ?_
    rintro _ _ _ ⟨t, sa2, oa2, la2, ma2, sn2, sc2, on2, oc2, ln2, lc2, mn2, mc2, rfl, hI2, hJ2, rfl, rfl⟩
    refine L.norm qA qA ?_
    refine A.backT rfl qD ?_
    refine A.takeP (i := 6) rfl rfl rfl rfl (by kernel_rfl) (by kernel_rfl) (by kernel_rfl) rfl qD ?_
    refine L.move rfl rfl ?_
    refine A.took ?_
    refine A.takeP (i := 7) rfl rfl rfl rfl (by kernel_rfl) (by kernel_rfl) (by kernel_rfl) rfl qD ?_
    refine L.extract rfl rfl rfl ?_
    refine A.took ?_
    refine A.takeP (i := 8) rfl rfl rfl rfl (by kernel_rfl) (by kernel_rfl) (by kernel_rfl) rfl qD ?_
    refine L.extract rfl rfl rfl ?_
    refine A.took ?_
    refine A.branch (is := [9]) (by kernel_rfl) (by decide) (Each.cons rfl ?_ <| Each.nil) 
    refine L.storeA ag36 rfl rfl qL qO qU qW ?_
    refine A.backT rfl qD ?_
    refine A.takeP (i := 10) rfl rfl rfl rfl (by kernel_rfl) (by kernel_rfl) (by kernel_rfl) rfl qD ?_
    refine L.assign rfl rfl ?_
    refine A.took ?_
    refine A.done (by kernel_rfl) ?_
    refine T.ownLen (a := sa2) (rows := t.ol.map oC) qM (fun hsl2 hsc2 => ?_)
    rw [List.length_map] at hsl2
    refine T.rslLen2 (rows := t.ol.map oR) qM (fun hol2 hoc2 => ?_)
    rw [List.length_map] at hol2
    have hlo8 := hI2.o.lo
    refine T.thenN ?_
    refine T.seq ?_
    refine T.region ?_
    first | refine L.field0 rfl fo36_0 rfl ?_ | refine L.field rfl fo36_0 rfl ?_
    refine L.load rfl sc24 rfl qC ?_
    refine L.call rfl (evs.cons rfl <| evs.nil) qD qS (open2_spec (b := b) (bb := bb) (q := q) (lm := lm) (o := 1) (sq := t.sq) (F := atM t.ml) (lk := t.lk) (ol := t.ol) (by have := hI2.o.lo; omega)) ?_
    rintro _ _ _ ⟨wa, wn, wc, rfl, hwn, rfl, rfl⟩
    refine L.norm qA qA ?_
    refine L.assign rfl rfl ?_
    refine L.nil ?_
    refine T.ownRsl (rows := t.ol.map fun x => wC x.1) qP ?_
    refine T.thenN ?_
    refine T.seq ?_
    refine T.seq ?_
    refine T.region ?_
    refine L.move rfl rfl ?_
    refine L.notB rfl rfl ?_
    refine L.move rfl rfl ?_
    refine L.known (t := 51) rfl (show _ = Value.bool false from rfl) ?_
    refine L.guardT (dj := 51) rfl rfl rfl ?_
    refine L.move rfl rfl ?_
    refine L.guardT (dj := 51) rfl rfl rfl ?_
    refine L.lenSl rfl Tryz.underlying42 rfl ?_
    refine L.guardT (dj := 51) rfl rfl rfl ?_
    first | refine L.field0 rfl fo36_1 rfl ?_ | refine L.field rfl fo36_1 rfl ?_
    refine L.guardT (dj := 51) rfl rfl rfl ?_
    first | refine L.field0 rfl fo34_2 rfl ?_ | refine L.field rfl fo34_2 rfl ?_
    refine L.guardT (dj := 51) rfl rfl rfl ?_
    refine L.load rfl sc30 rfl qC ?_
    refine L.guardT (dj := 51) rfl rfl rfl ?_
    refine L.lenSl rfl Tryz.underlying30 rfl ?_
    refine L.guardT (dj := 51) rfl rfl rfl ?_
    refine L.neI rfl rfl rfl ?_
    refine L.pickF rfl rfl rfl ?_
    refine L.nil ?_
    refine T.thenN ?_
    refine T.condF rfl (decide_eq_false (fun e => e (by omega))) ?_
    refine T.skip ?_
    refine T.thenN ?_
    refine T.seq ?_
    refine T.seq ?_
    refine T.region ?_
    first | refine L.field0 rfl fo36_1 rfl ?_ | refine L.field rfl fo36_1 rfl ?_
    first | refine L.field0 rfl fo34_2 rfl ?_ | refine L.field rfl fo34_2 rfl ?_
    refine L.load rfl sc30 rfl qC ?_
    refine L.lenSl rfl Tryz.underlying30 rfl ?_
    refine L.move rfl rfl ?_
    refine L.nil ?_
    refine T.thenN ?_
    refine T.block ?_
    refine T.loop (fun K' D' M' μ => ∃ (k : Nat), (k ≤ on2) ∧ K' = [(64, .int .i64 k)] ∧ D' = [] ∧ M' = [] ∧ μ = on2 - k) (.cons (t := 0) rfl <| .cons (t := 5) rfl <| .cons (t := 6) rfl <| .cons (t := 7) rfl <| .cons (t := 8) rfl <| .cons (t := 62) rfl <| .cons (t := 63) rfl <| SubK.nil _) (⟨0, Nat.zero_le _, rfl, rfl, rfl, rfl⟩) (.cons (t := 64) rfl <| SubK.nil _) qD qS ?_
    rintro K1 D1 M1 m1 ⟨k, hk, rfl, rfl, rfl, rfl⟩
    refine T.norm3 qA qA qA ?_
    refine T.seq ?_
    refine T.region ?_
    refine L.ltI rfl rfl rfl ?_
    refine L.nil ?_
    refine T.thenN ?_
    refine T.seq ?_
    refine T.cond rfl (fun h65 => ?_) (fun h65 => ?_)
    · try simp only [decide_eq_true_eq, decide_eq_false_iff_not, Bool.not_eq_true', Bool.not_eq_false', Bool.and_eq_true, Bool.or_eq_true] at h65
      refine T.skip ?_
      refine T.thenN ?_
      refine T.seq ?_
      refine T.block ?_
      refine T.seq ?_
      obtain ⟨x, hgj⟩ := ex_get (l := t.ol) (k := k) (by omega)
      have hgo : (t.ol.map oR)[k]? = some (oR x) := map_get hgj
      have hgw : (t.ol.map fun x => wC x.1)[k]? = some (wC x.1) := map_get (f := fun x => wC x.1) hgj
      have hx32 := x.1.2.1.2
      have hwl := wC_len x.1
      refine T.region ?_
      refine L.move rfl rfl ?_
      refine L.idx (i := k) rfl Tryz.underlying30 sz47 rfl rfl qM (by first | rfl | omega | (simp; done)) qG (fun b67 o67 => ?_)
      refine L.loadA rfl ag47 rfl qN ?_
      refine L.alloc rfl ze47 (fun b10 => ?_)
      refine L.assign rfl rfl ?_
      refine L.storeA ag47 rfl rfl qL qO qU qW ?_
      refine L.nil ?_
      refine T.thenN ?_
      refine T.seq ?_
      refine T.freeze (A := cl b10 47 (oR x)) qP ?_
      refine T.rslAddr (a := wa) (rows := t.ol.map fun x => wC x.1) qM (fun e => by have h2 := congrArg List.length e; rw [List.length_map, List.length_nil] at h2; omega) (fun pk qk hka => ?_)
      subst hka
      refine T.regionQ (by kernel_rfl) (by kernel_rfl) ?_
      refine L.move rfl rfl ?_
      refine L.move rfl rfl ?_
      refine L.idxG (i := k) rfl Tryz.underlying42 sz52 rfl rfl (by first | rfl | omega | (simp; done)) qI ?_
      first | refine L.field0 rfl fo52_1 rfl ?_ | refine L.field rfl fo52_1 rfl ?_
      refine L.loadA rfl ag50 rfl qN ?_
      refine L.callF rfl (evs.cons rfl <| evs.nil) qD qS (obytes_spec (l := x.1.2.1.1) hx32) (by rintro u D1 M1 ⟨rfl, rfl, rfl⟩; exact ⟨rfl, _, qA, qF⟩) ?_
      first | refine L.field0 rfl fo47_0 rfl ?_ | refine L.field rfl fo47_0 rfl ?_
      first | refine L.field0 rfl fo45_1 rfl ?_ | refine L.field rfl fo45_1 rfl ?_
      refine L.load rfl sc9 rfl qC ?_
      refine L.neS rfl rfl rfl ?_
      refine L.move rfl rfl ?_
      refine L.known (t := 79) rfl (show _ = Value.bool false from congrArg Value.bool (by simp)) ?_
      refine L.guardT (dj := 79) rfl rfl rfl ?_
      refine L.move rfl rfl ?_
      refine L.guardT (dj := 79) rfl rfl rfl ?_
      refine L.move rfl rfl ?_
      refine L.guardT (dj := 79) rfl rfl rfl ?_
      refine L.idxG (i := k) rfl Tryz.underlying42 sz52 rfl rfl (by first | rfl | omega | (simp; done)) qI ?_
      refine L.guardT (dj := 79) rfl rfl rfl ?_
      first | refine L.field0 rfl fo52_2 rfl ?_ | refine L.field rfl fo52_2 rfl ?_
      refine L.guardT (dj := 79) rfl rfl rfl ?_
      refine L.load rfl sc3 rfl qC ?_
      refine L.guardT (dj := 79) rfl rfl rfl ?_
      first | refine L.field0 rfl fo47_0 rfl ?_ | refine L.field rfl fo47_0 rfl ?_
      refine L.guardT (dj := 79) rfl rfl rfl ?_
      first | refine L.field0 rfl fo45_2 rfl ?_ | refine L.field rfl fo45_2 rfl ?_
      refine L.guardT (dj := 79) rfl rfl rfl ?_
      refine L.load rfl sc3 rfl qC ?_
      refine L.guardT (dj := 79) rfl rfl rfl ?_
      refine L.neI rfl rfl rfl ?_
      refine L.pickF rfl rfl rfl ?_
      refine L.nilQ ?_
      refine T.thenN ?_
      refine T.condF rfl (decide_eq_false (fun e => e rfl)) ?_
      refine T.skip ?_
      refine T.blkN ?_
      refine T.thenN ?_
      refine T.region ?_
      refine L.addN rfl rfl rfl (by omega) ?_
      refine L.move rfl rfl ?_
      refine L.nil ?_
      refine T.thenN ?_
      exact T.back ⟨k + 1, qT, rfl, rfl, rfl, rfl⟩ qI (.cons (t := 64) rfl <| SubK.nil _) (.cons (t := 0) rfl <| .cons (t := 5) rfl <| .cons (t := 6) rfl <| .cons (t := 7) rfl <| .cons (t := 8) rfl <| .cons (t := 62) rfl <| .cons (t := 63) rfl <| SubK.nil _) qD qD qF
    · try simp only [decide_eq_true_eq, decide_eq_false_iff_not, Bool.not_eq_true', Bool.not_eq_false', Bool.and_eq_true, Bool.or_eq_true] at h65
      refine T.exit ?_
      refine T.thenX ?_
      refine T.thenX ?_
      refine T.blkX ?_
      refine T.thenN ?_
      refine T.seq ?_
      refine T.region ?_
      refine L.move rfl rfl ?_
      refine L.nil ?_
      refine T.thenN ?_
      refine T.block ?_
      refine T.loop (fun K' D' M' μ => ∃ (n : Nat), (n ≤ 16) ∧ K' = [(91, .int .i64 n)] ∧ D' = [] ∧ M' = [] ∧ μ = 16 - n) (.cons (t := 0) rfl <| .cons (t := 5) rfl <| .cons (t := 6) rfl <| .cons (t := 7) rfl <| SubK.nil _) (⟨0, Nat.zero_le _, rfl, rfl, rfl, rfl⟩) (.cons (t := 91) rfl <| SubK.nil _) qD qS ?_
      rintro K1 D1 M1 m1 ⟨n, hn16, rfl, rfl, rfl, rfl⟩
      refine T.norm3 qA qA qA ?_
      refine T.seq ?_
      refine T.region ?_
      refine L.ltI rfl rfl rfl ?_
      refine L.nil ?_
      refine T.thenN ?_
      refine T.seq ?_
      refine T.cond rfl (fun h92 => ?_) (fun h92 => ?_)
      · try simp only [decide_eq_true_eq, decide_eq_false_iff_not, Bool.not_eq_true', Bool.not_eq_false', Bool.and_eq_true, Bool.or_eq_true] at h92
        refine T.skip ?_
        refine T.thenN ?_
        refine T.seq ?_
        refine T.block ?_
        refine T.seq ?_
        refine T.region ?_
        refine L.move rfl rfl ?_
        refine L.assign rfl rfl ?_
        refine L.nil ?_
        refine T.thenN ?_
        refine T.seq ?_
        refine T.regionQ (by kernel_rfl) (by kernel_rfl) ?_
        first | refine L.field0 rfl fo36_0 rfl ?_ | refine L.field rfl fo36_0 rfl ?_
        refine L.load rfl sc24 rfl qC ?_
        refine L.nilCheck rfl rfl ?_
        first | refine L.field0 rfl fo59_0 rfl ?_ | refine L.field rfl fo59_0 rfl ?_
        refine L.load rfl sc54 rfl qC ?_
        refine L.move rfl rfl ?_
        refine L.callF rfl (evs.cons rfl <| evs.cons rfl <| evs.nil) qD qS (score_spec (F := atM t.ml)) (by rintro u D1 M1 ⟨rfl, rfl, rfl⟩; exact ⟨rfl, _, qA, qF⟩) ?_
        first | refine L.field0 rfl fo36_1 rfl ?_ | refine L.field rfl fo36_1 rfl ?_
        refine L.loadA rfl ag34 rfl qN ?_
        refine L.move rfl rfl ?_
        refine L.callF rfl (evs.cons rfl <| evs.cons rfl <| evs.nil) qD qS (rscore_spec (ml := t.ml) (by have := hI2.lm; omega)) (by rintro u D1 M1 ⟨rfl, rfl, rfl⟩; exact ⟨rfl, _, qA, qF⟩) ?_
        refine L.neI rfl rfl rfl ?_
        refine L.move rfl rfl ?_
        refine L.known (t := 106) rfl (show _ = Value.bool false from congrArg Value.bool (decide_eq_false (fun e => e rfl))) ?_
        refine L.guardT (dj := 106) rfl rfl rfl ?_
        first | refine L.field0 rfl fo36_0 rfl ?_ | refine L.field rfl fo36_0 rfl ?_
        refine L.guardT (dj := 106) rfl rfl rfl ?_
        refine L.load rfl sc24 rfl qC ?_
        refine L.guardT (dj := 106) rfl rfl rfl ?_
        refine L.nilCheck rfl rfl ?_
        refine L.guardT (dj := 106) rfl rfl rfl ?_
        first | refine L.field0 rfl fo59_0 rfl ?_ | refine L.field rfl fo59_0 rfl ?_
        refine L.guardT (dj := 106) rfl rfl rfl ?_
        refine L.load rfl sc54 rfl qC ?_
        refine L.guardT (dj := 106) rfl rfl rfl ?_
        refine L.move rfl rfl ?_
        refine L.guardT (dj := 106) rfl rfl rfl ?_
        first | refine L.field0 rfl fo36_2 rfl ?_ | refine L.field rfl fo36_2 rfl ?_
        refine L.guardT (dj := 106) rfl rfl rfl ?_
        refine L.load rfl sc3 rfl qC ?_
        refine L.guardT (dj := 106) rfl rfl rfl ?_
        refine L.callF rfl (evs.cons rfl <| evs.cons rfl <| evs.cons rfl <| evs.nil) qD qS (may_spec (F := atM t.ml)) (by rintro u D1 M1 ⟨rfl, rfl, rfl⟩; exact ⟨rfl, _, qA, qF⟩) ?_
        refine L.guardT (dj := 106) rfl rfl rfl ?_
        first | refine L.field0 rfl fo36_1 rfl ?_ | refine L.field rfl fo36_1 rfl ?_
        refine L.guardT (dj := 106) rfl rfl rfl ?_
        refine L.loadA rfl ag34 rfl qN ?_
        refine L.guardT (dj := 106) rfl rfl rfl ?_
        refine L.move rfl rfl ?_
        refine L.guardT (dj := 106) rfl rfl rfl ?_
        first | refine L.field0 rfl fo36_2 rfl ?_ | refine L.field rfl fo36_2 rfl ?_
        refine L.guardT (dj := 106) rfl rfl rfl ?_
        refine L.load rfl sc3 rfl qC ?_
        refine L.guardT (dj := 106) rfl rfl rfl ?_
        refine L.callF rfl (evs.cons rfl <| evs.cons rfl <| evs.cons rfl <| evs.nil) qD qS (rmays_spec (ml := t.ml) (by have := hI2.lm; omega)) (by rintro u D1 M1 ⟨rfl, rfl, rfl⟩; exact ⟨rfl, _, qA, qF⟩) ?_
        refine L.guardT (dj := 106) rfl rfl rfl ?_
        refine L.neqB Tryz.underlying4 rfl rfl rfl ?_
        refine L.pickF rfl rfl rfl ?_
        refine L.nilQ ?_
        refine T.thenN ?_
        refine T.condF rfl (by simp) ?_
        refine T.skip ?_
        refine T.blkN ?_
        refine T.thenN ?_
        refine T.region ?_
        refine L.addN rfl rfl rfl (by omega) ?_
        refine L.move rfl rfl ?_
        refine L.nil ?_
        refine T.thenN ?_
        exact T.back ⟨n + 1, qT, rfl, rfl, rfl, rfl⟩ qI (.cons (t := 91) rfl <| SubK.nil _) (.cons (t := 0) rfl <| .cons (t := 5) rfl <| .cons (t := 6) rfl <| .cons (t := 7) rfl <| SubK.nil _) qD qD qF
      · try simp only [decide_eq_true_eq, decide_eq_false_iff_not, Bool.not_eq_true', Bool.not_eq_false', Bool.and_eq_true, Bool.or_eq_true] at h92
        refine T.exit ?_
        refine T.thenX ?_
        refine T.thenX ?_
        refine T.blkX ?_
        refine T.blkN ?_
        refine T.thenN ?_
        refine T.region ?_
        refine L.move rfl rfl ?_
        refine L.addN rfl rfl rfl (by omega) ?_
        refine L.assign rfl rfl ?_
        refine L.nil ?_
        refine T.thenN ?_
        exact T.back ⟨i + 1, t, _, _, _, _, _, _, _, _, _, _, _, _, ⟨by omega, hI2⟩, rfl, rfl, rfl, rfl⟩ qI (.cons (t := 6) rfl <| .cons (t := 7) rfl <| SubK.nil _) (.cons (t := 0) rfl <| .cons (t := 5) rfl <| SubK.nil _) qD qD qF
  · try simp only [decide_eq_true_eq, decide_eq_false_iff_not, Bool.not_eq_true', Bool.not_eq_false', Bool.and_eq_true, Bool.or_eq_true] at h34
    have hwf : ¬ (i < zn ∧ i < 60) := fun e => by have := hw.2 e; rw [h34] at this; cases this
    refine T.exit ?_
    refine T.thenX ?_
    refine T.thenX ?_
    refine T.blkX ?_
    refine T.thenN ?_
    refine T.seq ?_
    refine T.region ?_
    refine L.move rfl rfl ?_
    refine L.assign rfl rfl ?_
    refine L.nil ?_
    refine T.thenN ?_
    refine T.ret ?_
    exact T.ret1 rfl rfl ⟨rfl, rfl, rfl⟩ qD qF
end Cv
