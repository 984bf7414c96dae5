/-
  The walks: what an act says.
-/
import Derived.Test.YtcfhpmijippbmaaGreatRf25
import Derived.Test.YtcfhpmijippbmaaGreatProg
import Derived.KernelRfl
set_option linter.unusedVariables false
set_option linter.unusedSimpArgs false
set_option linter.unusedSectionVars false
set_option maxRecDepth 10000
namespace Cv
open Go Go.Proofs
def chsI (xs : List Int) (i : Nat) : List Wnt := (xs.take i).map fun n => chW (n20 n)
def chs (xs : List Int) : List Wnt := chsI xs 12
def hsF (xs : List Int) : List Int := (xs.take 6).map (fun n => n % (15 + 1))
theorem chs_s {xs : List Int} {i : Nat} (h : i < xs.length) : chsI xs (i + 1) = chsI xs i ++ [chW (n20 (gd xs i))] := by
  unfold chsI; rw [take_gd h, List.map_append]; rfl
theorem chs_end {xs : List Int} {i : Nat} (h1 : i ≤ 12) (h2 : i = 12 ∨ xs.length ≤ i) : chsI xs i = chs xs := by
  unfold chs chsI
  rcases h2 with rfl | h2
  · rfl
  · rw [List.take_of_length_le h2, List.take_of_length_le (by omega)]
theorem hs_end {xs : List Int} {i : Nat} (h1 : i ≤ 6) (h2 : i = 6 ∨ xs.length ≤ i) : (xs.take i).map (fun n => n % (15 + 1)) = hsF xs := by
  unfold hsF
  rcases h2 with rfl | h2
  · rfl
  · rw [List.take_of_length_le h2, List.take_of_length_le (by omega)]
theorem bs68 : Bs Tryz.prog 68 45 3 [Value.int .i64 0, S [], Value.int .i64 0] := bs_of Tryz.underlying68 (fun w => by kernel_rfl) zv45 rfl rfl (by decide)
theorem bu45 : Bu Tryz.prog 45 [Value.int .i64 0, S [], Value.int .i64 0] (fun (i : Nat) => ([(0, 1), (1, 1), (2, 1)] : List (Nat × Nat))[i]?) := bu_of Tryz.underlying45 zv45 rfl (fun w => by kernel_rfl)
theorem el45 : El Tryz.prog 45 3 32 := ⟨_, _, rfl, rfl, by kernel_rfl, by kernel_rfl, by kernel_rfl⟩
set_option maxHeartbeats 400000 in
theorem wants_spec {a : Option Addr} {len cap : Nat} {xs : List Int} (hb : len ≤ 9223372036854775807) : Spec Tryz.prog 16 [.slice a len cap] [rsl 1 a len cap (xs.map e3)] [] (fun v D' M' => ∃ (a1 a2 : Option Addr) (n1 c1 n2 c2 : Nat), v = .tuple #[.slice a1 n1 c1, .slice a2 n2 c2] ∧ ((chs xs).length = n1) ∧ ((chs xs).length = n2) ∧ (n1 ≤ 12) ∧ D' = [rsl 34 a1 n1 c1 ((chs xs).map wC), rsl 3 a2 n2 c2 ((chs xs).map wR)] ∧ M' = []) := by
  refine Spec.intro (n := 46) Tryz.func16 rfl rfl (by decide) (Nat.le_of_ble_eq_true rfl) rfl (fun _ => qA) (fun _ => qA) ?_
  intro σ D M
  refine T.rslLen2 (rows := xs.map e3) qM (fun hxl hxc => ?_)
  rw [List.length_map] at hxl
  refine T.seq ?_
  refine T.region ?_
  refine L.assign rfl rfl ?_
  refine L.assign rfl rfl ?_
  refine L.nil ?_
  refine T.thenN ?_
  refine T.seq ?_
  refine T.region ?_
  refine L.buildSlice rfl bs42 (by decide) (BP.doneE (out := []) rfl) (fun b9 => ?_)
  refine L.toOwn (len := 0) qP (rows := ([] : List Wnt).map wC) (sz := 34) (by rfl) rfl (by simp) ?_
  refine L.assign rfl rfl ?_
  refine L.nil ?_
  refine T.thenN ?_
  refine T.seq ?_
  refine T.region ?_
  refine L.buildSlice rfl bs68 (by decide) (BP.doneE (out := []) rfl) (fun b10 => ?_)
  refine L.toOwn (len := 0) qP (rows := ([] : List Wnt).map wR) (sz := 3) (by rfl) rfl (by simp) ?_
  refine L.assign rfl rfl ?_
  refine L.nil ?_
  refine T.thenN ?_
  refine T.seq ?_
  refine T.seq ?_
  refine T.region ?_
  refine L.assign rfl rfl ?_
  refine L.nil ?_
  refine T.thenN ?_
  refine T.block ?_
  refine T.ownEq (some ⟨b9, 0, none⟩) ((chsI xs 0).map wC) qP (by rfl) ?_
  refine T.ownEq (some ⟨b10, 0, none⟩) ((chsI xs 0).map wR) qP (by rfl) ?_
  refine T.loop (fun K' D' M' μ => ∃ (i : Nat) (a1 a2 : Option Addr) (c1 c2 : Nat), (i ≤ len ∧ i ≤ 12) ∧ K' = [(6, .int .i64 i), (4, .slice a1 i c1), (5, .slice a2 i c2)] ∧ D' = [] ∧ M' = [own 34 52 a1 i c1 ((chsI xs i).map wC), own 3 45 a2 i c2 ((chsI xs i).map wR)] ∧ μ = 12 - i) (.cons (t := 0) rfl <| SubK.nil _) (⟨0, _, _, _, _, ⟨by omega, by omega⟩, rfl, rfl, rfl, rfl⟩) (.cons (t := 6) rfl <| .cons (t := 4) rfl <| .cons (t := 5) rfl <| SubK.nil _) qD qS ?_
  rintro K1 D1 M1 m1 ⟨i, a1, a2, c1, c2, ⟨hi, hi12⟩, rfl, rfl, rfl, rfl⟩
  refine T.norm3 qA qA qA ?_
  refine T.seq ?_
  refine T.seq ?_
  refine T.cutC (fun K' D' M' => ∃ (w : Bool), (w = true ↔ (i < len ∧ i < 12)) ∧ K' = [(18, .bool w)] ∧ D' = [] ∧ M' = []) (M0 := []) (.cons (t := 0) rfl <| .cons (t := 4) rfl <| .cons (t := 5) rfl <| .cons (t := 6) rfl <| SubK.nil _) qS ?_ ?_
  · skip
    refine T.region ?_
    refine L.move rfl rfl ?_
    refine L.move rfl rfl ?_
    refine L.lenSl rfl Tryz.underlying39 rfl ?_
    refine L.ltI rfl rfl rfl ?_
    refine L.move rfl rfl ?_
    refine L.part (t := 15) rfl (fun h1 => ?_) (fun h1 => ?_)
    · try simp only [decide_eq_true_eq, decide_eq_false_iff_not, Bool.not_eq_true', Bool.not_eq_false', Bool.and_eq_true, Bool.or_eq_true] at h1
      refine L.guardT (dj := 15) rfl rfl rfl ?_
      refine L.move rfl rfl ?_
      refine L.guardT (dj := 15) rfl rfl rfl ?_
      refine L.ltI rfl rfl rfl ?_
      refine L.pickT rfl rfl rfl ?_
      refine L.nil ?_
      refine T.thenN ?_
      exact T.toJoin ⟨_, (by simp; omega), rfl, rfl, rfl⟩ (.cons (t := 18) rfl <| SubK.nil _) (.cons (t := 0) rfl <| .cons (t := 4) rfl <| .cons (t := 5) rfl <| .cons (t := 6) rfl <| SubK.nil _) qD qD qF
    · try simp only [decide_eq_true_eq, decide_eq_false_iff_not, Bool.not_eq_true', Bool.not_eq_false', Bool.and_eq_true, Bool.or_eq_true] at h1
      refine L.guardF (dj := 15) (c := false) rfl rfl rfl rfl rfl (by decide) ?_
      refine L.guardF (dj := 15) (c := false) rfl rfl rfl rfl rfl (by decide) ?_
      refine L.pickF rfl rfl rfl ?_
      refine L.nil ?_
      refine T.thenN ?_
      exact T.toJoin ⟨_, (by simp; omega), rfl, rfl, rfl⟩ (.cons (t := 18) rfl <| SubK.nil _) (.cons (t := 0) rfl <| .cons (t := 4) rfl <| .cons (t := 5) rfl <| .cons (t := 6) rfl <| SubK.nil _) qD qD qF
  rintro _ _ _ ⟨w, hw, rfl, rfl, rfl⟩
  refine T.norm3 qA qA qA ?_
  refine T.thenN ?_
  refine T.cond rfl (fun h18 => ?_) (fun h18 => ?_)
  · try simp only [decide_eq_true_eq, decide_eq_false_iff_not, Bool.not_eq_true', Bool.not_eq_false', Bool.and_eq_true, Bool.or_eq_true] at h18
    have hwt := hw.1 h18
    have hgi : xs[i]? = some (gd xs i) := gd_get (by omega)
    refine T.skip ?_
    refine T.thenN ?_
    refine T.seq ?_
    refine T.block ?_
    refine T.seq ?_
    refine T.region ?_
    refine L.move rfl rfl ?_
    refine L.move rfl rfl ?_
    refine L.idx (i := i) rfl Tryz.underlying39 sz3 rfl rfl qM (by first | rfl | omega | (simp; done)) qG (fun b24 o24 => ?_)
    refine L.load rfl sc3 rfl qC ?_
    refine L.callF rfl (evs.cons rfl <| evs.nil) qD qS (chunk_spec (n := gd xs i)) (by rintro u D1 M1 ⟨rfl, rfl, rfl⟩; exact ⟨rfl, _, qA, qF⟩) ?_
    obtain ⟨w, hww⟩ : ∃ w, w = chW (n20 (gd xs i)) := ⟨_, rfl⟩
    rw [← hww]
    have hwl := wC_len w
    have hw32 := w.2.1.2
    have hpl : (pcells (1, (chI (n20 (gd xs i))).1, chT (n20 (gd xs i)))).length = 34 := by simp [(chI (n20 (gd xs i))).2]
    refine L.move rfl rfl ?_
    refine L.extract rfl rfl rfl ?_
    refine L.extract rfl rfl rfl ?_
    refine L.alloc rfl ze52 (fun b7 => ?_)
    refine L.alloc rfl ze81 (fun b8 => ?_)
    refine L.storeA ag52 rfl rfl qL qO qU qW ?_
    refine L.storeA ag81 rfl rfl qL qO qU qW ?_
    refine L.nil ?_
    refine T.thenN ?_
    refine T.seq ?_
    refine T.region ?_
    refine L.move rfl rfl ?_
    refine L.loadA rfl ag52 rfl (CellsN.ofM qM (AtN.all hwl)) ?_
    refine L.buildSlice rfl bs42 (by decide) (BP.agg rfl rfl (by first | with_reducible assumption | (simp; done) | (simp only [List.length_map]; with_reducible assumption) | (simp [*]; done) | rfl) (Nat.le_of_ble_eq_true rfl) qR <| BP.doneE (out := []) rfl) (fun b31 => ?_)
    refine L.append1 rfl Tryz.underlying42 el52 rfl rfl qP qM (by rw [List.append_nil]; exact wC_len _) (fun u hu => by rw [List.append_nil] at hu; exact one_wnt u hu) qI qI (fun a32 c32 => ?_)
    refine L.assign rfl rfl ?_
    refine L.nil ?_
    refine T.thenN ?_
    refine T.regionA (clsL [1, 1, 0, 1, 0, 0, 1, 0, 1, 2, 2, 1]) (by kernel_rfl) ?_
    refine A.takeP (i := 0) rfl rfl rfl rfl (by kernel_rfl) (by kernel_rfl) (by kernel_rfl) rfl qD ?_
    refine L.move rfl rfl ?_
    refine A.took ?_
    refine A.takeP (i := 1) rfl rfl rfl rfl (by kernel_rfl) (by kernel_rfl) (by kernel_rfl) rfl qD ?_
    first | refine L.field0 rfl fo52_0 rfl ?_ | refine L.field rfl fo52_0 rfl ?_
    refine A.took ?_
    refine A.takeP (i := 3) rfl rfl rfl rfl (by kernel_rfl) (by kernel_rfl) (by kernel_rfl) rfl qD ?_
    first | refine L.field0 rfl fo52_1 rfl ?_ | refine L.field rfl fo52_1 rfl ?_
    refine A.took ?_
    refine A.takeP (i := 6) rfl rfl rfl rfl (by kernel_rfl) (by kernel_rfl) (by kernel_rfl) rfl qD ?_
    first | refine L.field0 rfl fo52_2 rfl ?_ | refine L.field rfl fo52_2 rfl ?_
    refine A.took ?_
    refine A.take (i := 2) rfl rfl rfl rfl (by kernel_rfl) (by kernel_rfl) (by kernel_rfl) (by kernel_rfl) rfl qD qF ?_
    refine L.load rfl sc3 rfl qC ?_
    refine A.took ?_
    refine A.take (i := 4) rfl rfl rfl rfl (by kernel_rfl) (by kernel_rfl) (by kernel_rfl) (by kernel_rfl) rfl qD qF ?_
    refine L.loadA rfl ag50 rfl qN ?_
    refine A.took ?_
    refine A.take (i := 7) rfl rfl rfl rfl (by kernel_rfl) (by kernel_rfl) (by kernel_rfl) (by kernel_rfl) rfl qD qF ?_
    refine L.load rfl sc3 rfl qC ?_
    refine A.took ?_
    refine A.branch (is := [5]) (by kernel_rfl) (by decide) (Each.cons rfl ?_ <| Each.nil) 
    refine L.callF rfl (evs.cons rfl <| evs.nil) qD qS (obytes_spec (l := w.2.1.1) hw32) (by rintro u D1 M1 ⟨rfl, rfl, rfl⟩; exact ⟨rfl, _, qA, qF⟩) ?_
    refine A.back rfl qD qF ?_
    refine A.takeP (i := 8) rfl rfl rfl rfl (by kernel_rfl) (by kernel_rfl) (by kernel_rfl) rfl qD ?_
    refine L.build rfl bu45 (BP.one rfl rfl rfl <| BP.one rfl rfl rfl <| BP.one rfl rfl rfl <| BP.doneE (out := []) rfl) ?_
    refine L.known (t := 41) (u := .agg (wR w).toArray) rfl (by rfl) ?_
    refine A.took ?_
    refine A.branch (is := [9]) (by kernel_rfl) (by decide) (Each.cons rfl ?_ <| Each.nil) 
    refine L.buildSlice rfl bs68 (by decide) (BP.agg rfl rfl (by first | with_reducible assumption | (simp; done) | (simp only [List.length_map]; with_reducible assumption) | (simp [*]; done) | rfl) (Nat.le_of_ble_eq_true rfl) qR <| BP.doneE (out := []) rfl) (fun b42 => ?_)
    refine A.backT rfl qD ?_
    refine A.branch (is := [10]) (by kernel_rfl) (by decide) (Each.cons rfl ?_ <| Each.nil) 
    refine L.append1 rfl Tryz.underlying68 el45 rfl rfl qP qM rfl qO1 qI qI (fun a43 c43 => ?_)
    refine A.backT rfl qD ?_
    refine A.takeP (i := 11) rfl rfl rfl rfl (by kernel_rfl) (by kernel_rfl) (by kernel_rfl) rfl qD ?_
    refine L.assign rfl rfl ?_
    refine A.took ?_
    refine A.done (by kernel_rfl) ?_
    refine T.blkN ?_
    refine T.thenN ?_
    refine T.region ?_
    refine L.move rfl rfl ?_
    refine L.addN rfl rfl rfl (by omega) ?_
    refine L.assign rfl rfl ?_
    refine L.nil ?_
    refine T.thenN ?_
    refine T.ownEq a32 ((chsI xs (i + 1)).map wC) qP (by rw [chs_s (by omega), ← hww, snocM, List.append_nil]) ?_
    refine T.ownEq a43 ((chsI xs (i + 1)).map wR) qP (by rw [chs_s (by omega), ← hww, snocM]) ?_
    exact T.back ⟨i + 1, _, _, _, _, ⟨by omega, by omega⟩, rfl, rfl, rfl, rfl⟩ qI (.cons (t := 6) rfl <| .cons (t := 4) rfl <| .cons (t := 5) rfl <| SubK.nil _) (.cons (t := 0) rfl <| SubK.nil _) qD qD qF
  · try simp only [decide_eq_true_eq, decide_eq_false_iff_not, Bool.not_eq_true', Bool.not_eq_false', Bool.and_eq_true, Bool.or_eq_true] at h18
    have hwf : ¬ (i < len ∧ i < 12) := fun e => by have := hw.2 e; rw [h18] at this; cases this
    have hche : chsI xs i = chs xs := chs_end (by omega) (by omega)
    refine T.exit ?_
    refine T.thenX ?_
    refine T.thenX ?_
    refine T.blkX ?_
    refine T.thenN ?_
    refine T.seq ?_
    rw [hche]
    refine T.ownRsl (rows := (chs xs).map wC) qP ?_
    refine T.ownRsl (rows := (chs xs).map wR) qP ?_
    have hcl := congrArg List.length hche
    rw [chsI, List.length_map, List.length_take] at hcl
    refine T.region ?_
    refine L.move rfl rfl ?_
    refine L.move rfl rfl ?_
    refine L.assign rfl rfl ?_
    refine L.assign rfl rfl ?_
    refine L.nil ?_
    refine T.thenN ?_
    refine T.ret ?_
    exact T.ret2 rfl rfl rfl ⟨_, _, _, _, _, _, rfl, by omega, by omega, hi12, rfl, rfl⟩ qD qF
set_option maxHeartbeats 400000 in
theorem hold_spec {a : Option Addr} {len cap : Nat} {xs : List Int} (hb : len ≤ 9223372036854775807) : Spec Tryz.prog 17 [.slice a len cap] [rsl 1 a len cap (xs.map e3)] [] (fun v D' M' => ∃ (a1 : Option Addr) (n1 c1 : Nat), v = .slice a1 n1 c1 ∧ ((hsF xs).length = n1) ∧ (n1 ≤ 6) ∧ D' = [rsl 1 a1 n1 c1 ((hsF xs).map e3)] ∧ M' = []) := by
  refine Spec.intro (n := 25) Tryz.func17 rfl rfl (by decide) (Nat.le_of_ble_eq_true rfl) rfl (fun _ => qA) (fun _ => qA) ?_
  intro σ D M
  refine T.rslLen2 (rows := xs.map e3) qM (fun hxl hxc => ?_)
  rw [List.length_map] at hxl
  refine T.seq ?_
  refine T.region ?_
  refine L.assign rfl rfl ?_
  refine L.nil ?_
  refine T.thenN ?_
  refine T.seq ?_
  refine T.region ?_
  refine L.buildSlice rfl bs39 (by decide) (BP.doneE (out := []) rfl) (fun b5 => ?_)
  refine L.toOwn (len := 0) qP (rows := ([] : List Int).map e3) (sz := 1) (by rfl) rfl (by simp) ?_
  refine L.assign rfl rfl ?_
  refine L.nil ?_
  refine T.thenN ?_
  refine T.seq ?_
  refine T.seq ?_
  refine T.region ?_
  refine L.assign rfl rfl ?_
  refine L.nil ?_
  refine T.thenN ?_
  refine T.block ?_
  refine T.loop (fun K' D' M' μ => ∃ (i : Nat) (a1 : Option Addr) (c1 : Nat), (i ≤ len ∧ i ≤ 6) ∧ K' = [(4, .int .i64 i), (3, .slice a1 i c1)] ∧ D' = [] ∧ M' = [own 1 3 a1 i c1 (((xs.take i).map (fun n => n % (15 + 1))).map e3)] ∧ μ = 6 - i) (.cons (t := 0) rfl <| SubK.nil _) (⟨0, _, _, ⟨by omega, by omega⟩, rfl, rfl, rfl, rfl⟩) (.cons (t := 4) rfl <| .cons (t := 3) rfl <| SubK.nil _) qD qS ?_
  rintro K1 D1 M1 m1 ⟨i, a1, c1, ⟨hi, hi6⟩, rfl, rfl, rfl, rfl⟩
  refine T.norm3 qA qA qA ?_
  refine T.seq ?_
  refine T.seq ?_
  refine T.cutC (fun K' D' M' => ∃ (w : Bool), (w = true ↔ (i < len ∧ i < 6)) ∧ K' = [(13, .bool w)] ∧ D' = [] ∧ M' = []) (M0 := []) (.cons (t := 0) rfl <| .cons (t := 3) rfl <| .cons (t := 4) rfl <| SubK.nil _) qS ?_ ?_
  · skip
    refine T.region ?_
    refine L.move rfl rfl ?_
    refine L.move rfl rfl ?_
    refine L.lenSl rfl Tryz.underlying39 rfl ?_
    refine L.ltI rfl rfl rfl ?_
    refine L.move rfl rfl ?_
    refine L.part (t := 10) rfl (fun h1 => ?_) (fun h1 => ?_)
    · try simp only [decide_eq_true_eq, decide_eq_false_iff_not, Bool.not_eq_true', Bool.not_eq_false', Bool.and_eq_true, Bool.or_eq_true] at h1
      refine L.guardT (dj := 10) rfl rfl rfl ?_
      refine L.move rfl rfl ?_
      refine L.guardT (dj := 10) rfl rfl rfl ?_
      refine L.ltI rfl rfl rfl ?_
      refine L.pickT rfl rfl rfl ?_
      refine L.nil ?_
      refine T.thenN ?_
      exact T.toJoin ⟨_, (by simp; omega), rfl, rfl, rfl⟩ (.cons (t := 13) rfl <| SubK.nil _) (.cons (t := 0) rfl <| .cons (t := 3) rfl <| .cons (t := 4) rfl <| SubK.nil _) qD qD qF
    · try simp only [decide_eq_true_eq, decide_eq_false_iff_not, Bool.not_eq_true', Bool.not_eq_false', Bool.and_eq_true, Bool.or_eq_true] at h1
      refine L.guardF (dj := 10) (c := false) rfl rfl rfl rfl rfl (by decide) ?_
      refine L.guardF (dj := 10) (c := false) rfl rfl rfl rfl rfl (by decide) ?_
      refine L.pickF rfl rfl rfl ?_
      refine L.nil ?_
      refine T.thenN ?_
      exact T.toJoin ⟨_, (by simp; omega), rfl, rfl, rfl⟩ (.cons (t := 13) rfl <| SubK.nil _) (.cons (t := 0) rfl <| .cons (t := 3) rfl <| .cons (t := 4) rfl <| SubK.nil _) qD qD qF
  rintro _ _ _ ⟨w, hw, rfl, rfl, rfl⟩
  refine T.norm3 qA qA qA ?_
  refine T.thenN ?_
  refine T.cond rfl (fun h13 => ?_) (fun h13 => ?_)
  · try simp only [decide_eq_true_eq, decide_eq_false_iff_not, Bool.not_eq_true', Bool.not_eq_false', Bool.and_eq_true, Bool.or_eq_true] at h13
    have hwt := hw.1 h13
    have hgi : xs[i]? = some (gd xs i) := gd_get (by omega)
    refine T.skip ?_
    refine T.thenN ?_
    refine T.seq ?_
    refine T.block ?_
    refine T.region ?_
    refine L.move rfl rfl ?_
    refine L.move rfl rfl ?_
    refine L.move rfl rfl ?_
    refine L.idx (i := i) rfl Tryz.underlying39 sz3 rfl rfl qM (by first | rfl | omega | (simp; done)) qG (fun b19 o19 => ?_)
    refine L.load rfl sc3 rfl qC ?_
    refine L.andM rfl rfl rfl (k := 4) (by decide) (by decide) ?_
    refine L.buildSlice rfl bs39 (by decide) (BP.one rfl rfl rfl <| BP.doneE (out := []) rfl) (fun b22 => ?_)
    refine L.append1 rfl Tryz.underlying39 el3 rfl rfl qP qM rfl qO1 qI qI (fun a23 c23 => ?_)
    refine L.assign rfl rfl ?_
    refine L.nil ?_
    refine T.blkN ?_
    refine T.thenN ?_
    refine T.region ?_
    refine L.move rfl rfl ?_
    refine L.addN rfl rfl rfl (by omega) ?_
    refine L.assign rfl rfl ?_
    refine L.nil ?_
    refine T.thenN ?_
    refine T.ownEq a23 (((xs.take (i + 1)).map (fun n => n % (15 + 1))).map e3) qP (by rw [take_gd (by omega), List.map_append, List.map_append]; rfl) ?_
    exact T.back ⟨i + 1, _, _, ⟨by omega, by omega⟩, rfl, rfl, rfl, rfl⟩ qI (.cons (t := 4) rfl <| .cons (t := 3) rfl <| SubK.nil _) (.cons (t := 0) rfl <| SubK.nil _) qD qD qF
  · try simp only [decide_eq_true_eq, decide_eq_false_iff_not, Bool.not_eq_true', Bool.not_eq_false', Bool.and_eq_true, Bool.or_eq_true] at h13
    have hwf : ¬ (i < len ∧ i < 6) := fun e => by have := hw.2 e; rw [h13] at this; cases this
    have hche : (xs.take i).map (fun n => n % (15 + 1)) = hsF xs := hs_end (by omega) (by omega)
    refine T.exit ?_
    refine T.thenX ?_
    refine T.thenX ?_
    refine T.blkX ?_
    refine T.thenN ?_
    refine T.seq ?_
    rw [hche]
    refine T.ownRsl (rows := (hsF xs).map e3) qP ?_
    have hcl := congrArg List.length hche
    rw [List.length_map, List.length_take] at hcl
    refine T.region ?_
    refine L.move rfl rfl ?_
    refine L.assign rfl rfl ?_
    refine L.nil ?_
    refine T.thenN ?_
    refine T.ret ?_
    exact T.ret1 rfl rfl ⟨_, _, _, rfl, by omega, hi6, rfl, rfl⟩ qD qF
end Cv
