/-
  The walks: orders that are open, ticks.
-/
import Derived.Test.YtcfhpmijippbmaaGreatX25
import Derived.Test.YtcfhpmijippbmaaGreatProg
import Derived.KernelRfl
set_option linter.unusedVariables false
set_option linter.unusedSimpArgs false
set_option linter.unusedSectionVars false
set_option maxRecDepth 10000
namespace Cv
open Go Go.Proofs
theorem one_wnt {w : Wnt} : ∀ u ∈ wC w, u.oneCell' = true := fun u hu => by
  simp only [wC, List.mem_cons, List.mem_append, List.mem_map, List.not_mem_nil, or_false] at hu
  rcases hu with rfl | ⟨b, _, rfl⟩ | rfl <;> rfl
theorem wC_oC (x : Ord) : oC x = wC x.1 ++ [.int .i64 x.2.1, .int .i64 x.2.2.1, .int .i64 x.2.2.2] := by simp [oC, wC]
theorem wC_at (x : Ord) : ∀ i v, (wC x.1)[i]? = some v → (oC x)[0 + i]? = some v := fun i v h => by
  rw [Nat.zero_add, wC_oC]
  have hi : i < (wC x.1).length := (List.getElem?_eq_some_iff.1 h).1
  rw [List.getElem?_append_left hi]; exact h
theorem el52 : El Tryz.prog 52 34 48 := ⟨_, _, rfl, rfl, by kernel_rfl, by kernel_rfl, by kernel_rfl⟩
theorem bs42 : Bs Tryz.prog 42 52 34 (Value.int .i64 0 :: Value.int .u8 0 :: Value.int .u8 0 :: Value.int .u8 0 :: Value.int .u8 0 :: Value.int .u8 0 :: Value.int .u8 0 :: Value.int .u8 0 :: Value.int .u8 0 :: Value.int .u8 0 :: Value.int .u8 0 :: Value.int .u8 0 :: Value.int .u8 0 :: Value.int .u8 0 :: Value.int .u8 0 :: Value.int .u8 0 :: Value.int .u8 0 :: Value.int .u8 0 :: Value.int .u8 0 :: Value.int .u8 0 :: Value.int .u8 0 :: Value.int .u8 0 :: Value.int .u8 0 :: Value.int .u8 0 :: Value.int .u8 0 :: Value.int .u8 0 :: Value.int .u8 0 :: Value.int .u8 0 :: Value.int .u8 0 :: Value.int .u8 0 :: Value.int .u8 0 :: Value.int .u8 0 :: Value.int .u8 0 :: Value.int .i64 0 :: []) := bs_of Tryz.underlying42 (fun w => by kernel_rfl) zv52 rfl rfl (by decide)
theorem fo96_2 : Fo Tryz.prog 96 2 35 := fun a w => by kernel_rfl
theorem fo96_3 : Fo Tryz.prog 96 3 36 := fun a w => by kernel_rfl
theorem sc24 : Sc Tryz.prog 24 := fun w => ⟨by kernel_rfl, by kernel_rfl⟩
theorem ze125 : Ze Tryz.prog 125 (Value.int .i64 0 :: Value.int .u8 0 :: Value.int .u8 0 :: Value.int .u8 0 :: Value.int .u8 0 :: Value.int .u8 0 :: Value.int .u8 0 :: Value.int .u8 0 :: Value.int .u8 0 :: Value.int .u8 0 :: Value.int .u8 0 :: Value.int .u8 0 :: Value.int .u8 0 :: Value.int .u8 0 :: Value.int .u8 0 :: Value.int .u8 0 :: Value.int .u8 0 :: Value.int .u8 0 :: Value.int .u8 0 :: Value.int .u8 0 :: Value.int .u8 0 :: Value.int .u8 0 :: Value.int .u8 0 :: Value.int .u8 0 :: Value.int .u8 0 :: Value.int .u8 0 :: Value.int .u8 0 :: Value.int .u8 0 :: Value.int .u8 0 :: Value.int .u8 0 :: Value.int .u8 0 :: Value.int .u8 0 :: Value.int .u8 0 :: []) := ⟨_, rfl, zv125⟩
theorem ag125 : Ag Tryz.prog 125 33 := fun w => ⟨by kernel_rfl, by kernel_rfl⟩
set_option maxHeartbeats 400000 in
theorem open_spec {b bb q on oc lm : Nat} {o sq : Int} {oa : Option Addr} {ol : List Ord} {F : Int → Mind} {lk : List (LK × Int)} (hon : on ≤ 1000000) : Spec Tryz.prog 9 [.pointer (some ⟨b, 0, none⟩)] [] [cl b 59 (swC bb q o oa on oc lm sq), own 37 96 oa on oc ((ol).map oC)] (fun v D' M' => ∃ (a' : Option Addr) (n' c' : Nat), v = .slice a' n' c' ∧ (ol.length = n') ∧ D' = [] ∧ M' = [cl b 59 (swC bb q o oa on oc lm sq), own 37 96 oa on oc ((ol).map oC)]) := by
  refine Spec.intro (n := 22) Tryz.func9 rfl rfl (by decide) (Nat.le_of_ble_eq_true rfl) rfl (fun _ => qA) (fun _ => qA) ?_
  intro σ D M
  refine T.ownLen (rows := ol.map oC) qM (fun hLl hLc => ?_)
  rw [List.length_map] at hLl
  refine T.seq ?_
  refine T.region ?_
  refine L.assign rfl rfl ?_
  refine L.nil ?_
  refine T.thenN ?_
  refine T.seq ?_
  refine T.region ?_
  refine L.assign rfl rfl ?_
  refine L.nil ?_
  refine T.newOwn (sz := 34) (e := 52) ?_
  refine T.thenN ?_
  refine T.seq ?_
  refine T.seq ?_
  refine T.region ?_
  refine L.move rfl rfl ?_
  refine L.nilCheck rfl rfl ?_
  first | refine L.field0 rfl fo59_3 rfl ?_ | refine L.field rfl fo59_3 rfl ?_
  refine L.load rfl sc56 rfl qC ?_
  refine L.lenSl rfl Tryz.underlying56 rfl ?_
  refine L.move rfl rfl ?_
  refine L.nil ?_
  refine T.thenN ?_
  refine T.block ?_
  refine T.eqv qP (show own 34 52 none 0 0 [] = own 34 52 none 0 0 ((ol.take 0).map fun x => wC x.1) from by rw [List.take_zero]; rfl) ?_
  refine T.loop (fun K' D' M' μ => ∃ (j : Nat) (a3 : Option Addr) (c3 : Nat), (j ≤ on) ∧ K' = [(11, .int .i64 j), (3, .slice a3 j c3)] ∧ D' = [] ∧ M' = [own 34 52 a3 j c3 ((ol.take j).map fun x => wC x.1)] ∧ μ = on - j) (.cons (t := 9) rfl <| .cons (t := 10) rfl <| SubK.nil _) (⟨0, none, 0, Nat.zero_le _, rfl, rfl, rfl, rfl⟩) (.cons (t := 11) rfl <| .cons (t := 3) rfl <| SubK.nil _) qD qS ?_
  rintro K1 D1 M1 m1 ⟨j, a3, c3, hj, rfl, rfl, rfl, rfl⟩
  refine T.norm3 qA qA qA ?_
  refine T.seq ?_
  refine T.region ?_
  refine L.ltI rfl rfl rfl ?_
  refine L.nil ?_
  refine T.thenN ?_
  refine T.seq ?_
  refine T.cond rfl (fun h12 => ?_) (fun h12 => ?_)
  · try simp only [decide_eq_true_eq, decide_eq_false_iff_not, Bool.not_eq_true', Bool.not_eq_false', Bool.and_eq_true, Bool.or_eq_true] at h12
    refine T.ownNe (a := oa) qM (by omega) (fun pb po ha_ => ?_)
    subst ha_
    refine T.skip ?_
    refine T.thenN ?_
    refine T.seq ?_
    refine T.block ?_
    refine T.seq ?_
    have hgj : ol[j]? = some (gd ol j) := gd_get (by omega)
    obtain ⟨x, hx_⟩ : ∃ x, x = gd ol j := ⟨_, rfl⟩
    rw [← hx_] at hgj
    have hxl := oC_len x
    have hx32 := x.1.2.1.2
    have hwl := wC_len x.1
    refine T.region ?_
    refine L.idxG (i := j) rfl Tryz.underlying56 sz96 rfl rfl (by first | rfl | omega | (simp; done)) qI ?_
    refine L.loadA rfl ag96 rfl (CellsN.ofOwn qM (map_get hgj) (oC_len _)) ?_
    refine L.alloc rfl ze96 (fun b5 => ?_)
    refine L.storeA ag96 rfl rfl qL qO qU qW ?_
    refine L.nil ?_
    refine T.thenN ?_
    refine T.region ?_
    refine L.move rfl rfl ?_
    first | refine L.field0 rfl fo96_0 rfl ?_ | refine L.field rfl fo96_0 rfl ?_
    refine L.loadA (vs := wC x.1) rfl ag52 rfl (CellsN.ofM qM ⟨wC_len _, wC_at x⟩) ?_
    refine L.buildSlice rfl bs42 (by decide) (BP.agg rfl rfl (by first | with_reducible assumption | (simp; done) | (simp only [List.length_map]; with_reducible assumption) | (simp [*]; done) | rfl) (Nat.le_of_ble_eq_true rfl) qR <| BP.doneE (out := []) rfl) (fun b18 => ?_)
    have hwl := wC_len x.1
    refine L.append1 rfl Tryz.underlying42 el52 rfl rfl qP qM (by rw [List.append_nil]; exact wC_len _) (fun u hu => by rw [List.append_nil] at hu; exact one_wnt u hu) qI qI (fun a19 c19 => ?_)
    refine L.assign rfl rfl ?_
    refine L.nil ?_
    refine T.blkN ?_
    refine T.thenN ?_
    refine T.region ?_
    refine L.addN rfl rfl rfl (by omega) ?_
    refine L.move rfl rfl ?_
    refine L.nil ?_
    refine T.thenN ?_
    refine T.ownEq a19 ((ol.take (j + 1)).map fun x => wC x.1) qP (by rw [List.take_add_one, hgj, List.map_append, List.append_nil]; rfl) ?_
    exact T.back ⟨j + 1, _, _, (by omega), rfl, rfl, rfl, rfl⟩ qI (.cons (t := 11) rfl <| .cons (t := 3) rfl <| SubK.nil _) (.cons (t := 9) rfl <| .cons (t := 10) rfl <| SubK.nil _) qD qD qF
  · try simp only [decide_eq_true_eq, decide_eq_false_iff_not, Bool.not_eq_true', Bool.not_eq_false', Bool.and_eq_true, Bool.or_eq_true] at h12
    obtain rfl : on = j := by omega
    refine T.exit ?_
    refine T.thenX ?_
    refine T.thenX ?_
    refine T.blkX ?_
    refine T.thenN ?_
    refine T.seq ?_
    refine T.region ?_
    refine L.move rfl rfl ?_
    refine L.assign rfl rfl ?_
    refine L.nil ?_
    refine T.thenN ?_
    refine T.ret ?_
    exact T.ret1 rfl rfl ⟨_, _, _, rfl, hLl, rfl, rfl⟩ qD qF
set_option maxHeartbeats 400000 in
theorem match1_spec {bl : Nat} {x : Ord} {kd fr to_ sq_ what : Int} {id : ID32} {tx : List UInt8} {pa ha : Option Addr} {pl pc hl hc : Nat}  : Spec Tryz.prog 66 [.agg (oC x).toArray, .pointer (some ⟨bl, 0, none⟩)] [] [cl bl 77 (letV kd fr to_ sq_ id.1 what tx pa pl pc ha hl hc)] (fun v D' M' => v = .bool (mB fr sq_ id.1 what x) ∧ D' = [] ∧ M' = [cl bl 77 (letV kd fr to_ sq_ id.1 what tx pa pl pc ha hl hc)]) := by
  refine Spec.intro (n := 32) Tryz.func66 rfl rfl (by decide) (Nat.le_of_ble_eq_true rfl) rfl (fun _ => qA) (fun _ => qA) ?_
  intro σ D M
  have hx32 := x.1.2.1.2
  have hi32 := id.2
  have hol := oC_len x
  have hll := @letV_len kd fr to_ sq_ what id.1 tx pa ha pl pc hl hc hi32
  refine T.seq ?_
  refine T.region ?_
  refine L.box rfl rfl rfl (fun b2 => ?_)
  refine L.assign rfl rfl ?_
  refine L.nil ?_
  refine T.thenN ?_
  refine T.seq ?_
  rcases m_cases fr sq_ id.1 x with h1 | ⟨h1, h2⟩ | ⟨h1, h2, h3⟩ | ⟨h1, h2, h3⟩
  · skip
    refine T.region ?_
    first | refine L.field0 rfl fo96_1 rfl ?_ | refine L.field rfl fo96_1 rfl ?_
    refine L.load rfl sc3 rfl qC ?_
    first | refine L.field0 rfl fo77_1 rfl ?_ | refine L.field rfl fo77_1 rfl ?_
    refine L.load rfl sc3 rfl qC ?_
    refine L.eqI rfl rfl rfl ?_
    refine L.move rfl rfl ?_
    refine L.known (t := 9) rfl (show _ = Value.bool false from congrArg Value.bool (decide_eq_false h1)) ?_
    refine L.guardF (dj := 9) (c := false) rfl rfl rfl rfl rfl (by decide) ?_
    refine L.guardF (dj := 9) (c := false) rfl rfl rfl rfl rfl (by decide) ?_
    refine L.guardF (dj := 9) (c := false) rfl rfl rfl rfl rfl (by decide) ?_
    refine L.guardF (dj := 9) (c := false) rfl rfl rfl rfl rfl (by decide) ?_
    refine L.guardF (dj := 9) (c := false) rfl rfl rfl rfl rfl (by decide) ?_
    refine L.pickF rfl rfl rfl ?_
    refine L.move rfl rfl ?_
    refine L.guardF (dj := 16) (c := false) rfl rfl rfl rfl rfl (by decide) ?_
    refine L.guardF (dj := 16) (c := false) rfl rfl rfl rfl rfl (by decide) ?_
    refine L.guardF (dj := 16) (c := false) rfl rfl rfl rfl rfl (by decide) ?_
    refine L.guardF (dj := 16) (c := false) rfl rfl rfl rfl rfl (by decide) ?_
    refine L.guardF (dj := 16) (c := false) rfl rfl rfl rfl rfl (by decide) ?_
    refine L.guardF (dj := 16) (c := false) rfl rfl rfl rfl rfl (by decide) ?_
    refine L.pickF rfl rfl rfl ?_
    refine L.move rfl rfl ?_
    refine L.guardF (dj := 24) (c := false) rfl rfl rfl rfl rfl (by decide) ?_
    refine L.guardF (dj := 24) (c := false) rfl rfl rfl rfl rfl (by decide) ?_
    refine L.guardF (dj := 24) (c := false) rfl rfl rfl rfl rfl (by decide) ?_
    refine L.guardF (dj := 24) (c := false) rfl rfl rfl rfl rfl (by decide) ?_
    refine L.guardF (dj := 24) (c := false) rfl rfl rfl rfl rfl (by decide) ?_
    refine L.guardF (dj := 24) (c := false) rfl rfl rfl rfl rfl (by decide) ?_
    refine L.pickF rfl rfl rfl ?_
    refine L.assign rfl rfl ?_
    refine L.nil ?_
    refine T.thenN ?_
    refine T.ret ?_
    exact T.ret1 rfl rfl ⟨congrArg Value.bool (by unfold mB; exact (decide_eq_false (fun e => h1 e.1)).symm), rfl, rfl⟩ qD qF
  · skip
    refine T.region ?_
    first | refine L.field0 rfl fo96_1 rfl ?_ | refine L.field rfl fo96_1 rfl ?_
    refine L.load rfl sc3 rfl qC ?_
    first | refine L.field0 rfl fo77_1 rfl ?_ | refine L.field rfl fo77_1 rfl ?_
    refine L.load rfl sc3 rfl qC ?_
    refine L.eqI rfl rfl rfl ?_
    refine L.move rfl rfl ?_
    refine L.known (t := 9) rfl (show _ = Value.bool true from congrArg Value.bool (decide_eq_true h1)) ?_
    refine L.guardT (dj := 9) rfl rfl rfl ?_
    first | refine L.field0 rfl fo96_2 rfl ?_ | refine L.field rfl fo96_2 rfl ?_
    refine L.guardT (dj := 9) rfl rfl rfl ?_
    refine L.load rfl sc3 rfl qC ?_
    refine L.guardT (dj := 9) rfl rfl rfl ?_
    first | refine L.field0 rfl fo77_3 rfl ?_ | refine L.field rfl fo77_3 rfl ?_
    refine L.guardT (dj := 9) rfl rfl rfl ?_
    refine L.load rfl sc3 rfl qC ?_
    refine L.guardT (dj := 9) rfl rfl rfl ?_
    refine L.eqI rfl rfl rfl ?_
    refine L.pickT rfl rfl rfl ?_
    refine L.move rfl rfl ?_
    refine L.known (t := 16) rfl (show _ = Value.bool false from congrArg Value.bool (decide_eq_false h2)) ?_
    refine L.guardF (dj := 16) (c := false) rfl rfl rfl rfl rfl (by decide) ?_
    refine L.guardF (dj := 16) (c := false) rfl rfl rfl rfl rfl (by decide) ?_
    refine L.guardF (dj := 16) (c := false) rfl rfl rfl rfl rfl (by decide) ?_
    refine L.guardF (dj := 16) (c := false) rfl rfl rfl rfl rfl (by decide) ?_
    refine L.guardF (dj := 16) (c := false) rfl rfl rfl rfl rfl (by decide) ?_
    refine L.guardF (dj := 16) (c := false) rfl rfl rfl rfl rfl (by decide) ?_
    refine L.pickF rfl rfl rfl ?_
    refine L.move rfl rfl ?_
    refine L.guardF (dj := 24) (c := false) rfl rfl rfl rfl rfl (by decide) ?_
    refine L.guardF (dj := 24) (c := false) rfl rfl rfl rfl rfl (by decide) ?_
    refine L.guardF (dj := 24) (c := false) rfl rfl rfl rfl rfl (by decide) ?_
    refine L.guardF (dj := 24) (c := false) rfl rfl rfl rfl rfl (by decide) ?_
    refine L.guardF (dj := 24) (c := false) rfl rfl rfl rfl rfl (by decide) ?_
    refine L.guardF (dj := 24) (c := false) rfl rfl rfl rfl rfl (by decide) ?_
    refine L.pickF rfl rfl rfl ?_
    refine L.assign rfl rfl ?_
    refine L.nil ?_
    refine T.thenN ?_
    refine T.ret ?_
    exact T.ret1 rfl rfl ⟨congrArg Value.bool (by unfold mB; exact (decide_eq_false (fun e => h2 e.2.1)).symm), rfl, rfl⟩ qD qF
  · skip
    refine T.region ?_
    first | refine L.field0 rfl fo96_1 rfl ?_ | refine L.field rfl fo96_1 rfl ?_
    refine L.load rfl sc3 rfl qC ?_
    first | refine L.field0 rfl fo77_1 rfl ?_ | refine L.field rfl fo77_1 rfl ?_
    refine L.load rfl sc3 rfl qC ?_
    refine L.eqI rfl rfl rfl ?_
    refine L.move rfl rfl ?_
    refine L.known (t := 9) rfl (show _ = Value.bool true from congrArg Value.bool (decide_eq_true h1)) ?_
    refine L.guardT (dj := 9) rfl rfl rfl ?_
    first | refine L.field0 rfl fo96_2 rfl ?_ | refine L.field rfl fo96_2 rfl ?_
    refine L.guardT (dj := 9) rfl rfl rfl ?_
    refine L.load rfl sc3 rfl qC ?_
    refine L.guardT (dj := 9) rfl rfl rfl ?_
    first | refine L.field0 rfl fo77_3 rfl ?_ | refine L.field rfl fo77_3 rfl ?_
    refine L.guardT (dj := 9) rfl rfl rfl ?_
    refine L.load rfl sc3 rfl qC ?_
    refine L.guardT (dj := 9) rfl rfl rfl ?_
    refine L.eqI rfl rfl rfl ?_
    refine L.pickT rfl rfl rfl ?_
    refine L.move rfl rfl ?_
    refine L.known (t := 16) rfl (show _ = Value.bool true from congrArg Value.bool (decide_eq_true h2)) ?_
    refine L.guardT (dj := 16) rfl rfl rfl ?_
    first | refine L.field0 rfl fo96_0 rfl ?_ | refine L.field rfl fo96_0 rfl ?_
    refine L.guardT (dj := 16) rfl rfl rfl ?_
    first | refine L.field0 rfl fo52_1 rfl ?_ | refine L.field rfl fo52_1 rfl ?_
    refine L.guardT (dj := 16) rfl rfl rfl ?_
    refine L.loadA rfl ag50 rfl qN ?_
    refine L.guardT (dj := 16) rfl rfl rfl ?_
    first | refine L.field0 rfl fo77_4 rfl ?_ | refine L.field rfl fo77_4 rfl ?_
    refine L.guardT (dj := 16) rfl rfl rfl ?_
    refine L.loadA rfl ag50 rfl qN ?_
    refine L.guardT (dj := 16) rfl rfl rfl ?_
    refine L.eqlArrI (by kernel_rfl) rfl Tryz.underlying50 Tryz.underlying5 sc5 rfl rfl qL qL ?_
    refine L.pickT rfl rfl rfl ?_
    refine L.move rfl rfl ?_
    refine L.known (t := 24) rfl (show _ = Value.bool false from congrArg Value.bool (decide_eq_false h3)) ?_
    refine L.guardF (dj := 24) (c := false) rfl rfl rfl rfl rfl (by decide) ?_
    refine L.guardF (dj := 24) (c := false) rfl rfl rfl rfl rfl (by decide) ?_
    refine L.guardF (dj := 24) (c := false) rfl rfl rfl rfl rfl (by decide) ?_
    refine L.guardF (dj := 24) (c := false) rfl rfl rfl rfl rfl (by decide) ?_
    refine L.guardF (dj := 24) (c := false) rfl rfl rfl rfl rfl (by decide) ?_
    refine L.guardF (dj := 24) (c := false) rfl rfl rfl rfl rfl (by decide) ?_
    refine L.pickF rfl rfl rfl ?_
    refine L.assign rfl rfl ?_
    refine L.nil ?_
    refine T.thenN ?_
    refine T.ret ?_
    exact T.ret1 rfl rfl ⟨congrArg Value.bool (by unfold mB; exact (decide_eq_false (fun e => h3 e.2.2.1)).symm), rfl, rfl⟩ qD qF
  · skip
    refine T.region ?_
    first | refine L.field0 rfl fo96_1 rfl ?_ | refine L.field rfl fo96_1 rfl ?_
    refine L.load rfl sc3 rfl qC ?_
    first | refine L.field0 rfl fo77_1 rfl ?_ | refine L.field rfl fo77_1 rfl ?_
    refine L.load rfl sc3 rfl qC ?_
    refine L.eqI rfl rfl rfl ?_
    refine L.move rfl rfl ?_
    refine L.known (t := 9) rfl (show _ = Value.bool true from congrArg Value.bool (decide_eq_true h1)) ?_
    refine L.guardT (dj := 9) rfl rfl rfl ?_
    first | refine L.field0 rfl fo96_2 rfl ?_ | refine L.field rfl fo96_2 rfl ?_
    refine L.guardT (dj := 9) rfl rfl rfl ?_
    refine L.load rfl sc3 rfl qC ?_
    refine L.guardT (dj := 9) rfl rfl rfl ?_
    first | refine L.field0 rfl fo77_3 rfl ?_ | refine L.field rfl fo77_3 rfl ?_
    refine L.guardT (dj := 9) rfl rfl rfl ?_
    refine L.load rfl sc3 rfl qC ?_
    refine L.guardT (dj := 9) rfl rfl rfl ?_
    refine L.eqI rfl rfl rfl ?_
    refine L.pickT rfl rfl rfl ?_
    refine L.move rfl rfl ?_
    refine L.known (t := 16) rfl (show _ = Value.bool true from congrArg Value.bool (decide_eq_true h2)) ?_
    refine L.guardT (dj := 16) rfl rfl rfl ?_
    first | refine L.field0 rfl fo96_0 rfl ?_ | refine L.field rfl fo96_0 rfl ?_
    refine L.guardT (dj := 16) rfl rfl rfl ?_
    first | refine L.field0 rfl fo52_1 rfl ?_ | refine L.field rfl fo52_1 rfl ?_
    refine L.guardT (dj := 16) rfl rfl rfl ?_
    refine L.loadA rfl ag50 rfl qN ?_
    refine L.guardT (dj := 16) rfl rfl rfl ?_
    first | refine L.field0 rfl fo77_4 rfl ?_ | refine L.field rfl fo77_4 rfl ?_
    refine L.guardT (dj := 16) rfl rfl rfl ?_
    refine L.loadA rfl ag50 rfl qN ?_
    refine L.guardT (dj := 16) rfl rfl rfl ?_
    refine L.eqlArrI (by kernel_rfl) rfl Tryz.underlying50 Tryz.underlying5 sc5 rfl rfl qL qL ?_
    refine L.pickT rfl rfl rfl ?_
    refine L.move rfl rfl ?_
    refine L.known (t := 24) rfl (show _ = Value.bool true from congrArg Value.bool (decide_eq_true h3)) ?_
    refine L.guardT (dj := 24) rfl rfl rfl ?_
    first | refine L.field0 rfl fo96_0 rfl ?_ | refine L.field rfl fo96_0 rfl ?_
    refine L.guardT (dj := 24) rfl rfl rfl ?_
    first | refine L.field0 rfl fo52_0 rfl ?_ | refine L.field rfl fo52_0 rfl ?_
    refine L.guardT (dj := 24) rfl rfl rfl ?_
    refine L.load rfl sc3 rfl qC ?_
    refine L.guardT (dj := 24) rfl rfl rfl ?_
    first | refine L.field0 rfl fo77_5 rfl ?_ | refine L.field rfl fo77_5 rfl ?_
    refine L.guardT (dj := 24) rfl rfl rfl ?_
    refine L.load rfl sc3 rfl qC ?_
    refine L.guardT (dj := 24) rfl rfl rfl ?_
    refine L.eqI rfl rfl rfl ?_
    refine L.pickT rfl rfl rfl ?_
    refine L.assign rfl rfl ?_
    refine L.nil ?_
    refine T.thenN ?_
    refine T.ret ?_
    exact T.ret1 rfl rfl ⟨congrArg Value.bool (by unfold mB; exact decide_eq_decide.2 ⟨fun e => ⟨h1, h2, h3, e⟩, fun e => e.2.2.2⟩), rfl, rfl⟩ qD qF
set_option maxHeartbeats 400000 in
theorem match_spec {b bb q on oc lm : Nat} {o sq : Int} {oa : Option Addr} {ol : List Ord} {F : Int → Mind} {lk : List (LK × Int)} {kd fr to_ sq_ what : Int} {id : ID32} {tx : List UInt8} {pa ha : Option Addr} {pl pc hl hc : Nat} (hon : on ≤ 1000000) : Spec Tryz.prog 44 [.pointer (some ⟨b, 0, none⟩), .agg (letV kd fr to_ sq_ id.1 what tx pa pl pc ha hl hc).toArray] [] [cl b 59 (swC bb q o oa on oc lm sq), own 37 96 oa on oc ((ol).map oC)] (fun v D' M' => v = .int .i64 (idxQ (mB fr sq_ id.1 what) ol) ∧ D' = [] ∧ M' = [cl b 59 (swC bb q o oa on oc lm sq), own 37 96 oa on oc ((ol).map oC)]) := by
  refine Spec.intro (n := 11) Tryz.func44 rfl rfl (by decide) (Nat.le_of_ble_eq_true rfl) rfl (fun _ => qA) (fun _ => qA) ?_
  intro σ D M
  have hi32 := id.2
  have hll := @letV_len kd fr to_ sq_ what id.1 tx pa ha pl pc hl hc hi32
  refine T.seq ?_
  refine T.region ?_
  refine L.box rfl rfl rfl (fun b3 => ?_)
  refine L.assign rfl rfl ?_
  refine L.nil ?_
  refine T.thenN ?_
  refine T.seq ?_
  refine T.region ?_
  refine L.move rfl rfl ?_
  refine L.nilCheck rfl rfl ?_
  first | refine L.field0 rfl fo59_3 rfl ?_ | refine L.field rfl fo59_3 rfl ?_
  refine L.load rfl sc56 rfl qC ?_
  refine L.makeFunc rfl (evs.cons rfl <| evs.nil) ?_
  refine L.callB1 (A := own 37 96 oa on oc ((ol).map oC)) rfl (evs.cons rfl <| evs.cons rfl <| evs.nil) qS qP (fun z H => rsl_of_own H) (idxo_spec (g := 66) (St := Unit) (Ac := fun _ => cl b3 77 (letV kd fr to_ sq_ id.1 what tx pa pl pc ha hl hc)) (p := mB fr sq_ id.1 what) (st := fun s _ => s) (s := ()) (caps := [.pointer (some ⟨b3, 0, none⟩)]) (xs := ol) (fun _ x _ => match1_spec (bl := b3) (x := x)) (by omega)) ?_
  rintro _ _ _ ⟨rfl, rfl, rfl⟩
  refine L.norm AppL.nil qA ?_
  refine L.assign rfl rfl ?_
  refine L.nil ?_
  refine T.thenN ?_
  refine T.ret ?_
  exact T.ret1 rfl rfl ⟨rfl, rfl, rfl⟩ qD qF
set_option maxHeartbeats 400000 in
theorem tick1_spec {b bb q on oc lm bs bn : Nat} {o sq now : Int} {oa : Option Addr} {F : Int → Mind} {x : Ord} (h0 : 0 ≤ now) (h9 : now ≤ 100000000) (hx : -1000000 ≤ x.2.2.2 ∧ x.2.2.2 ≤ 1000000000) : Spec Tryz.prog 55 [.agg (oC x).toArray, .pointer (some ⟨bn, 0, none⟩), .pointer (some ⟨bs, 0, none⟩)] [] [cl bn 3 [.int .i64 now], cl bs 24 [.pointer (some ⟨b, 0, none⟩)], cl b 59 (swC bb q o oa on oc lm sq), bookA bb (F)] (fun v D' M' => v = .bool (lateB now x) ∧ D' = [] ∧ M' = [cl bn 3 [.int .i64 now], cl bs 24 [.pointer (some ⟨b, 0, none⟩)], cl b 59 (swC bb q o oa on oc lm sq), bookA bb (if lateB now x then silS now F x else F)]) := by
  refine Spec.intro (n := 21) Tryz.func55 rfl rfl (by decide) (Nat.le_of_ble_eq_true rfl) rfl (fun _ => qA) (fun _ => qA) ?_
  intro σ D M
  have hol := oC_len x
  have hx32 := x.1.2.1.2
  refine T.seq ?_
  refine T.region ?_
  refine L.box rfl rfl rfl (fun b3 => ?_)
  refine L.assign rfl rfl ?_
  refine L.nil ?_
  refine T.thenN ?_
  refine T.seq ?_
  refine T.region ?_
  refine L.load rfl sc3 rfl qC ?_
  first | refine L.field0 rfl fo96_3 rfl ?_ | refine L.field rfl fo96_3 rfl ?_
  refine L.load rfl sc3 rfl qC ?_
  refine L.subN rfl rfl rfl (by omega) ?_
  refine L.geI rfl rfl rfl ?_
  refine L.assign rfl rfl ?_
  refine L.nil ?_
  refine T.thenN ?_
  refine T.seq ?_
  refine T.seq ?_
  refine T.region ?_
  refine L.move rfl rfl ?_
  refine L.nil ?_
  refine T.thenN ?_
  refine T.cond rfl (fun h11 => ?_) (fun h11 => ?_)
  · try simp only [decide_eq_true_eq, decide_eq_false_iff_not, Bool.not_eq_true', Bool.not_eq_false', Bool.and_eq_true, Bool.or_eq_true] at h11
    have hlt : lateB now x = true := by unfold lateB; exact decide_eq_true h11
    rw [hlt, if_pos rfl]
    unfold silS
    refine T.regionA (clsL [0, 0, 1, 0, 1, 0, 0, 2]) (by kernel_rfl) ?_
    refine A.takeP (i := 4) rfl rfl rfl rfl (by kernel_rfl) (by kernel_rfl) (by kernel_rfl) rfl qD ?_
    first | refine L.field0 rfl fo96_1 rfl ?_ | refine L.field rfl fo96_1 rfl ?_
    refine A.took ?_
    refine A.take (i := 0) rfl rfl rfl rfl (by kernel_rfl) (by kernel_rfl) (by kernel_rfl) (by kernel_rfl) rfl qD qF ?_
    refine L.load rfl sc24 rfl qC ?_
    refine A.took ?_
    refine A.nilCheck (i := 1) rfl rfl (by kernel_rfl) (by kernel_rfl) (by kernel_rfl) (by kernel_rfl) rfl qD qF rfl ?_
    refine A.takeP (i := 2) rfl rfl rfl rfl (by kernel_rfl) (by kernel_rfl) (by kernel_rfl) rfl qD ?_
    first | refine L.field0 rfl fo59_0 rfl ?_ | refine L.field rfl fo59_0 rfl ?_
    refine A.took ?_
    refine A.take (i := 3) rfl rfl rfl rfl (by kernel_rfl) (by kernel_rfl) (by kernel_rfl) (by kernel_rfl) rfl qD qF ?_
    refine L.load rfl sc54 rfl qC ?_
    refine A.took ?_
    refine A.take (i := 5) rfl rfl rfl rfl (by kernel_rfl) (by kernel_rfl) (by kernel_rfl) (by kernel_rfl) rfl qD qF ?_
    refine L.load rfl sc3 rfl qC ?_
    refine A.took ?_
    refine A.take (i := 6) rfl rfl rfl rfl (by kernel_rfl) (by kernel_rfl) (by kernel_rfl) (by kernel_rfl) rfl qD qF ?_
    refine L.load rfl sc3 rfl qC ?_
    refine A.took ?_
    refine A.branch (is := [7]) (by kernel_rfl) (by decide) (Each.cons rfl ?_ <| Each.nil) 
    refine L.call rfl (evs.cons rfl <| evs.cons rfl <| evs.cons rfl <| evs.nil) qD qS (silent_spec (b := bb) (n := x.2.1) (now := now) (F := F) h0 (by omega)) ?_
    rintro _ _ _ ⟨rfl, rfl, rfl⟩
    refine L.norm qA qA ?_
    refine A.backT rfl qD ?_
    refine A.done (by kernel_rfl) ?_
    refine T.thenN ?_
    refine T.seq ?_
    refine T.region ?_
    refine L.move rfl rfl ?_
    refine L.assign rfl rfl ?_
    refine L.nil ?_
    refine T.thenN ?_
    refine T.ret ?_
    exact T.ret1 rfl rfl ⟨congrArg Value.bool (by exact decide_eq_true h11), rfl, rfl⟩ qD qF
  · try simp only [decide_eq_true_eq, decide_eq_false_iff_not, Bool.not_eq_true', Bool.not_eq_false', Bool.and_eq_true, Bool.or_eq_true] at h11
    have hlt : lateB now x = false := by unfold lateB; exact decide_eq_false h11
    rw [hlt, if_neg (by decide)]
    refine T.skip ?_
    refine T.thenN ?_
    refine T.seq ?_
    refine T.region ?_
    refine L.move rfl rfl ?_
    refine L.assign rfl rfl ?_
    refine L.nil ?_
    refine T.thenN ?_
    refine T.ret ?_
    exact T.ret1 rfl rfl ⟨congrArg Value.bool (by exact decide_eq_false h11), rfl, rfl⟩ qD qF
set_option maxHeartbeats 400000 in
theorem tickM_spec {b bb q on oc lm : Nat} {o sq : Int} {oa : Option Addr} {ol : List Ord} {F : Int → Mind} {lk : List (LK × Int)} {now : Int} (hon : on ≤ 1000000) (h0 : 0 ≤ now) (h9 : now ≤ 100000000) (hx : ∀ x ∈ ol, -1000000 ≤ x.2.2.2 ∧ x.2.2.2 ≤ 1000000000) : Spec Tryz.prog 28 [.pointer (some ⟨b, 0, none⟩), .int .i64 now] [] [cl b 59 (swC bb q o oa on oc lm sq), own 37 96 oa on oc ((ol).map oC), bookA bb F, mp lm lkK iK lk] (fun v D' M' => ∃ (oa2 : Option Addr) (on2 oc2 : Nat), v = .tuple #[] ∧ ((ol.filter fun x => !lateB now x).length = on2) ∧ D' = [] ∧ M' = [cl b 59 (swC bb q o oa2 on2 oc2 lm sq), own 37 96 oa2 on2 oc2 ((ol.filter fun x => !lateB now x).map oC), bookA bb (delS (lateB now) (silS now) F ol), mp lm lkK iK (lk.filter fun e => decide (now < e.2))]) := by
  refine Spec.intro (n := 33) Tryz.func28 rfl rfl (by decide) (Nat.le_of_ble_eq_true rfl) rfl (fun _ => qA) (fun _ => qA) ?_
  intro σ D M
  refine T.mpNodup (kenc := lkK) (venc := iK) qM (fun hnd => ?_)
  refine T.seq ?_
  refine T.region ?_
  refine L.box rfl rfl rfl (fun b2 => ?_)
  refine L.box rfl rfl rfl (fun b3 => ?_)
  refine L.nil ?_
  refine T.thenN ?_
  refine T.seq ?_
  refine T.cutC (fun K' D' M' => ∃ (oa2 : Option Addr) (on2 oc2 : Nat), ((ol.filter fun x => !lateB now x).length = on2) ∧ K' = [] ∧ D' = [] ∧ M' = [cl b3 3 [.int .i64 now], cl b2 24 [.pointer (some ⟨b, 0, none⟩)], cl b 59 (swC bb q o oa2 on2 oc2 lm sq), bookA bb (delS (lateB now) (silS now) F ol), own 37 96 oa2 on2 oc2 ((ol.filter fun x => !lateB now x).map oC)]) (M0 := [cl b3 3 [.int .i64 now], cl b2 24 [.pointer (some ⟨b, 0, none⟩)], cl b 59 (swC bb q o oa on oc lm sq), bookA bb (F), own 37 96 oa on oc ((ol).map oC)]) (.cons (t := 2) rfl <| .cons (t := 3) rfl <| SubK.nil _) qS ?_ ?_
  · skip
    refine T.regionA (clsL [2, 2, 1, 1, 2, 2, 2, 1, 1, 2]) (by kernel_rfl) ?_
    refine A.branch (is := [0, 1, 5]) (by kernel_rfl) (by decide) (Each.cons rfl ?_ <| Each.cons rfl ?_ <| Each.cons rfl ?_ <| Each.nil) 
    · skip
      refine L.load rfl sc24 rfl qC ?_
      refine A.backT rfl qD ?_
      refine A.branch (is := [1, 5]) (by kernel_rfl) (by decide) (Each.cons rfl ?_ <| Each.cons rfl ?_ <| Each.nil) 
      · skip
        refine L.load rfl sc24 rfl qC ?_
        refine A.backT rfl qD ?_
        refine A.nilCheckP (i := 2) rfl rfl (by kernel_rfl) (by kernel_rfl) (by kernel_rfl) rfl qD rfl ?_
        refine A.takeP (i := 3) rfl rfl rfl rfl (by kernel_rfl) (by kernel_rfl) (by kernel_rfl) rfl qD ?_
        first | refine L.field0 rfl fo59_3 rfl ?_ | refine L.field rfl fo59_3 rfl ?_
        refine A.took ?_
        refine A.branch (is := [4, 5]) (by kernel_rfl) (by decide) (Each.cons rfl ?_ <| Each.cons rfl ?_ <| Each.nil) 
        · skip
          refine L.load rfl sc56 rfl qC ?_
          refine A.backT rfl qD ?_
          refine A.branch (is := [5]) (by kernel_rfl) (by decide) (Each.cons rfl ?_ <| Each.nil) 
          refine L.makeFunc rfl (evs.cons rfl <| evs.cons rfl <| evs.nil) ?_
          refine A.backT rfl qD ?_
          refine A.branch (is := [6]) (by kernel_rfl) (by decide) (Each.cons rfl ?_ <| Each.nil) 
          refine L.foldAs (all [cl b3 3 [.int .i64 now], cl b2 24 [.pointer (some ⟨b, 0, none⟩)], cl b 59 (swC bb q o oa on oc lm sq), bookA bb F]) qS rfl ?_
          refine L.call rfl (evs.cons rfl <| evs.cons rfl <| evs.nil) qD qS (delo_spec (St := Int → Mind) (g := 55) (caps := [.pointer (some ⟨b3, 0, none⟩), .pointer (some ⟨b2, 0, none⟩)]) (Ac := fun F => all [cl b3 3 [.int .i64 now], cl b2 24 [.pointer (some ⟨b, 0, none⟩)], cl b 59 (swC bb q o oa on oc lm sq), bookA bb F]) (p := lateB now) (st := silS now) (s := F) (xs := ol) (fun F x hm => specAllM (tick1_spec (bn := b3) (bs := b2) (F := F) h0 h9 (hx x hm))) (by omega)) ?_
          rintro _ _ _ ⟨oa2, on2, oc2, rfl, holn2, rfl, rfl⟩
          refine L.norm qA qA ?_
          refine L.unfold [cl b3 3 [.int .i64 now], cl b2 24 [.pointer (some ⟨b, 0, none⟩)], cl b 59 (swC bb q o oa on oc lm sq), bookA bb (delS (lateB now) (silS now) F ol)] qP rfl qA ?_
          refine A.backT rfl qD ?_
          refine A.nilCheckP (i := 7) rfl rfl (by kernel_rfl) (by kernel_rfl) (by kernel_rfl) rfl qD rfl ?_
          refine A.takeP (i := 8) rfl rfl rfl rfl (by kernel_rfl) (by kernel_rfl) (by kernel_rfl) rfl qD ?_
          first | refine L.field0 rfl fo59_3 rfl ?_ | refine L.field rfl fo59_3 rfl ?_
          refine A.took ?_
          refine A.branch (is := [9]) (by kernel_rfl) (by decide) (Each.cons rfl ?_ <| Each.nil) 
          refine L.store sc56 rfl rfl rfl qU qE ?_
          refine A.backT rfl qD ?_
          refine A.done (by kernel_rfl) ?_
          refine T.thenN ?_
          exact T.toJoin ⟨_, _, _, holn2, rfl, rfl, rfl⟩ (SubK.nil _) (.cons (t := 2) rfl <| .cons (t := 3) rfl <| SubK.nil _) qD qD qF
        · skip
          refine L.makeFunc rfl (evs.cons rfl <| evs.cons rfl <| evs.nil) ?_
          refine A.backT rfl qD ?_
          refine A.branch (is := [4]) (by kernel_rfl) (by decide) (Each.cons rfl ?_ <| Each.nil) 
          refine L.load rfl sc56 rfl qC ?_
          refine A.backT rfl qD ?_
          refine A.branch (is := [6]) (by kernel_rfl) (by decide) (Each.cons rfl ?_ <| Each.nil) 
          refine L.foldAs (all [cl b3 3 [.int .i64 now], cl b2 24 [.pointer (some ⟨b, 0, none⟩)], cl b 59 (swC bb q o oa on oc lm sq), bookA bb F]) qS rfl ?_
          refine L.call rfl (evs.cons rfl <| evs.cons rfl <| evs.nil) qD qS (delo_spec (St := Int → Mind) (g := 55) (caps := [.pointer (some ⟨b3, 0, none⟩), .pointer (some ⟨b2, 0, none⟩)]) (Ac := fun F => all [cl b3 3 [.int .i64 now], cl b2 24 [.pointer (some ⟨b, 0, none⟩)], cl b 59 (swC bb q o oa on oc lm sq), bookA bb F]) (p := lateB now) (st := silS now) (s := F) (xs := ol) (fun F x hm => specAllM (tick1_spec (bn := b3) (bs := b2) (F := F) h0 h9 (hx x hm))) (by omega)) ?_
          rintro _ _ _ ⟨oa2, on2, oc2, rfl, holn2, rfl, rfl⟩
          refine L.norm qA qA ?_
          refine L.unfold [cl b3 3 [.int .i64 now], cl b2 24 [.pointer (some ⟨b, 0, none⟩)], cl b 59 (swC bb q o oa on oc lm sq), bookA bb (delS (lateB now) (silS now) F ol)] qP rfl qA ?_
          refine A.backT rfl qD ?_
          refine A.nilCheckP (i := 7) rfl rfl (by kernel_rfl) (by kernel_rfl) (by kernel_rfl) rfl qD rfl ?_
          refine A.takeP (i := 8) rfl rfl rfl rfl (by kernel_rfl) (by kernel_rfl) (by kernel_rfl) rfl qD ?_
          first | refine L.field0 rfl fo59_3 rfl ?_ | refine L.field rfl fo59_3 rfl ?_
          refine A.took ?_
          refine A.branch (is := [9]) (by kernel_rfl) (by decide) (Each.cons rfl ?_ <| Each.nil) 
          refine L.store sc56 rfl rfl rfl qU qE ?_
          refine A.backT rfl qD ?_
          refine A.done (by kernel_rfl) ?_
          refine T.thenN ?_
          exact T.toJoin ⟨_, _, _, holn2, rfl, rfl, rfl⟩ (SubK.nil _) (.cons (t := 2) rfl <| .cons (t := 3) rfl <| SubK.nil _) qD qD qF
      · skip
        refine L.makeFunc rfl (evs.cons rfl <| evs.cons rfl <| evs.nil) ?_
        refine A.backT rfl qD ?_
        refine A.branch (is := [1]) (by kernel_rfl) (by decide) (Each.cons rfl ?_ <| Each.nil) 
        refine L.load rfl sc24 rfl qC ?_
        refine A.backT rfl qD ?_
        refine A.nilCheckP (i := 2) rfl rfl (by kernel_rfl) (by kernel_rfl) (by kernel_rfl) rfl qD rfl ?_
        refine A.takeP (i := 3) rfl rfl rfl rfl (by kernel_rfl) (by kernel_rfl) (by kernel_rfl) rfl qD ?_
        first | refine L.field0 rfl fo59_3 rfl ?_ | refine L.field rfl fo59_3 rfl ?_
        refine A.took ?_
        refine A.branch (is := [4]) (by kernel_rfl) (by decide) (Each.cons rfl ?_ <| Each.nil) 
        refine L.load rfl sc56 rfl qC ?_
        refine A.backT rfl qD ?_
        refine A.branch (is := [6]) (by kernel_rfl) (by decide) (Each.cons rfl ?_ <| Each.nil) 
        refine L.foldAs (all [cl b3 3 [.int .i64 now], cl b2 24 [.pointer (some ⟨b, 0, none⟩)], cl b 59 (swC bb q o oa on oc lm sq), bookA bb F]) qS rfl ?_
        refine L.call rfl (evs.cons rfl <| evs.cons rfl <| evs.nil) qD qS (delo_spec (St := Int → Mind) (g := 55) (caps := [.pointer (some ⟨b3, 0, none⟩), .pointer (some ⟨b2, 0, none⟩)]) (Ac := fun F => all [cl b3 3 [.int .i64 now], cl b2 24 [.pointer (some ⟨b, 0, none⟩)], cl b 59 (swC bb q o oa on oc lm sq), bookA bb F]) (p := lateB now) (st := silS now) (s := F) (xs := ol) (fun F x hm => specAllM (tick1_spec (bn := b3) (bs := b2) (F := F) h0 h9 (hx x hm))) (by omega)) ?_
        rintro _ _ _ ⟨oa2, on2, oc2, rfl, holn2, rfl, rfl⟩
        refine L.norm qA qA ?_
        refine L.unfold [cl b3 3 [.int .i64 now], cl b2 24 [.pointer (some ⟨b, 0, none⟩)], cl b 59 (swC bb q o oa on oc lm sq), bookA bb (delS (lateB now) (silS now) F ol)] qP rfl qA ?_
        refine A.backT rfl qD ?_
        refine A.nilCheckP (i := 7) rfl rfl (by kernel_rfl) (by kernel_rfl) (by kernel_rfl) rfl qD rfl ?_
        refine A.takeP (i := 8) rfl rfl rfl rfl (by kernel_rfl) (by kernel_rfl) (by kernel_rfl) rfl qD ?_
        first | refine L.field0 rfl fo59_3 rfl ?_ | refine L.field rfl fo59_3 rfl ?_
        refine A.took ?_
        refine A.branch (is := [9]) (by kernel_rfl) (by decide) (Each.cons rfl ?_ <| Each.nil) 
        refine L.store sc56 rfl rfl rfl qU qE ?_
        refine A.backT rfl qD ?_
        refine A.done (by kernel_rfl) ?_
        refine T.thenN ?_
        exact T.toJoin ⟨_, _, _, holn2, rfl, rfl, rfl⟩ (SubK.nil _) (.cons (t := 2) rfl <| .cons (t := 3) rfl <| SubK.nil _) qD qD qF
    · skip
      refine L.load rfl sc24 rfl qC ?_
      refine A.backT rfl qD ?_
      refine A.nilCheckP (i := 2) rfl rfl (by kernel_rfl) (by kernel_rfl) (by kernel_rfl) rfl qD rfl ?_
      refine A.takeP (i := 3) rfl rfl rfl rfl (by kernel_rfl) (by kernel_rfl) (by kernel_rfl) rfl qD ?_
      first | refine L.field0 rfl fo59_3 rfl ?_ | refine L.field rfl fo59_3 rfl ?_
      refine A.took ?_
      refine A.branch (is := [0, 4, 5]) (by kernel_rfl) (by decide) (Each.cons rfl ?_ <| Each.cons rfl ?_ <| Each.cons rfl ?_ <| Each.nil) 
      · skip
        refine L.load rfl sc24 rfl qC ?_
        refine A.backT rfl qD ?_
        refine A.branch (is := [4, 5]) (by kernel_rfl) (by decide) (Each.cons rfl ?_ <| Each.cons rfl ?_ <| Each.nil) 
        · skip
          refine L.load rfl sc56 rfl qC ?_
          refine A.backT rfl qD ?_
          refine A.branch (is := [5]) (by kernel_rfl) (by decide) (Each.cons rfl ?_ <| Each.nil) 
          refine L.makeFunc rfl (evs.cons rfl <| evs.cons rfl <| evs.nil) ?_
          refine A.backT rfl qD ?_
          refine A.branch (is := [6]) (by kernel_rfl) (by decide) (Each.cons rfl ?_ <| Each.nil) 
          refine L.foldAs (all [cl b3 3 [.int .i64 now], cl b2 24 [.pointer (some ⟨b, 0, none⟩)], cl b 59 (swC bb q o oa on oc lm sq), bookA bb F]) qS rfl ?_
          refine L.call rfl (evs.cons rfl <| evs.cons rfl <| evs.nil) qD qS (delo_spec (St := Int → Mind) (g := 55) (caps := [.pointer (some ⟨b3, 0, none⟩), .pointer (some ⟨b2, 0, none⟩)]) (Ac := fun F => all [cl b3 3 [.int .i64 now], cl b2 24 [.pointer (some ⟨b, 0, none⟩)], cl b 59 (swC bb q o oa on oc lm sq), bookA bb F]) (p := lateB now) (st := silS now) (s := F) (xs := ol) (fun F x hm => specAllM (tick1_spec (bn := b3) (bs := b2) (F := F) h0 h9 (hx x hm))) (by omega)) ?_
          rintro _ _ _ ⟨oa2, on2, oc2, rfl, holn2, rfl, rfl⟩
          refine L.norm qA qA ?_
          refine L.unfold [cl b3 3 [.int .i64 now], cl b2 24 [.pointer (some ⟨b, 0, none⟩)], cl b 59 (swC bb q o oa on oc lm sq), bookA bb (delS (lateB now) (silS now) F ol)] qP rfl qA ?_
          refine A.backT rfl qD ?_
          refine A.nilCheckP (i := 7) rfl rfl (by kernel_rfl) (by kernel_rfl) (by kernel_rfl) rfl qD rfl ?_
          refine A.takeP (i := 8) rfl rfl rfl rfl (by kernel_rfl) (by kernel_rfl) (by kernel_rfl) rfl qD ?_
          first | refine L.field0 rfl fo59_3 rfl ?_ | refine L.field rfl fo59_3 rfl ?_
          refine A.took ?_
          refine A.branch (is := [9]) (by kernel_rfl) (by decide) (Each.cons rfl ?_ <| Each.nil) 
          refine L.store sc56 rfl rfl rfl qU qE ?_
          refine A.backT rfl qD ?_
          refine A.done (by kernel_rfl) ?_
          refine T.thenN ?_
          exact T.toJoin ⟨_, _, _, holn2, rfl, rfl, rfl⟩ (SubK.nil _) (.cons (t := 2) rfl <| .cons (t := 3) rfl <| SubK.nil _) qD qD qF
        · skip
          refine L.makeFunc rfl (evs.cons rfl <| evs.cons rfl <| evs.nil) ?_
          refine A.backT rfl qD ?_
          refine A.branch (is := [4]) (by kernel_rfl) (by decide) (Each.cons rfl ?_ <| Each.nil) 
          refine L.load rfl sc56 rfl qC ?_
          refine A.backT rfl qD ?_
          refine A.branch (is := [6]) (by kernel_rfl) (by decide) (Each.cons rfl ?_ <| Each.nil) 
          refine L.foldAs (all [cl b3 3 [.int .i64 now], cl b2 24 [.pointer (some ⟨b, 0, none⟩)], cl b 59 (swC bb q o oa on oc lm sq), bookA bb F]) qS rfl ?_
          refine L.call rfl (evs.cons rfl <| evs.cons rfl <| evs.nil) qD qS (delo_spec (St := Int → Mind) (g := 55) (caps := [.pointer (some ⟨b3, 0, none⟩), .pointer (some ⟨b2, 0, none⟩)]) (Ac := fun F => all [cl b3 3 [.int .i64 now], cl b2 24 [.pointer (some ⟨b, 0, none⟩)], cl b 59 (swC bb q o oa on oc lm sq), bookA bb F]) (p := lateB now) (st := silS now) (s := F) (xs := ol) (fun F x hm => specAllM (tick1_spec (bn := b3) (bs := b2) (F := F) h0 h9 (hx x hm))) (by omega)) ?_
          rintro _ _ _ ⟨oa2, on2, oc2, rfl, holn2, rfl, rfl⟩
          refine L.norm qA qA ?_
          refine L.unfold [cl b3 3 [.int .i64 now], cl b2 24 [.pointer (some ⟨b, 0, none⟩)], cl b 59 (swC bb q o oa on oc lm sq), bookA bb (delS (lateB now) (silS now) F ol)] qP rfl qA ?_
          refine A.backT rfl qD ?_
          refine A.nilCheckP (i := 7) rfl rfl (by kernel_rfl) (by kernel_rfl) (by kernel_rfl) rfl qD rfl ?_
          refine A.takeP (i := 8) rfl rfl rfl rfl (by kernel_rfl) (by kernel_rfl) (by kernel_rfl) rfl qD ?_
          first | refine L.field0 rfl fo59_3 rfl ?_ | refine L.field rfl fo59_3 rfl ?_
          refine A.took ?_
          refine A.branch (is := [9]) (by kernel_rfl) (by decide) (Each.cons rfl ?_ <| Each.nil) 
          refine L.store sc56 rfl rfl rfl qU qE ?_
          refine A.backT rfl qD ?_
          refine A.done (by kernel_rfl) ?_
          refine T.thenN ?_
          exact T.toJoin ⟨_, _, _, holn2, rfl, rfl, rfl⟩ (SubK.nil _) (.cons (t := 2) rfl <| .cons (t := 3) rfl <| SubK.nil _) qD qD qF
      · skip
        refine L.load rfl sc56 rfl qC ?_
        refine A.backT rfl qD ?_
        refine A.branch (is := [0, 5]) (by kernel_rfl) (by decide) (Each.cons rfl ?_ <| Each.cons rfl ?_ <| Each.nil) 
        · skip
          refine L.load rfl sc24 rfl qC ?_
          refine A.backT rfl qD ?_
          refine A.branch (is := [5]) (by kernel_rfl) (by decide) (Each.cons rfl ?_ <| Each.nil) 
          refine L.makeFunc rfl (evs.cons rfl <| evs.cons rfl <| evs.nil) ?_
          refine A.backT rfl qD ?_
          refine A.branch (is := [6]) (by kernel_rfl) (by decide) (Each.cons rfl ?_ <| Each.nil) 
          refine L.foldAs (all [cl b3 3 [.int .i64 now], cl b2 24 [.pointer (some ⟨b, 0, none⟩)], cl b 59 (swC bb q o oa on oc lm sq), bookA bb F]) qS rfl ?_
          refine L.call rfl (evs.cons rfl <| evs.cons rfl <| evs.nil) qD qS (delo_spec (St := Int → Mind) (g := 55) (caps := [.pointer (some ⟨b3, 0, none⟩), .pointer (some ⟨b2, 0, none⟩)]) (Ac := fun F => all [cl b3 3 [.int .i64 now], cl b2 24 [.pointer (some ⟨b, 0, none⟩)], cl b 59 (swC bb q o oa on oc lm sq), bookA bb F]) (p := lateB now) (st := silS now) (s := F) (xs := ol) (fun F x hm => specAllM (tick1_spec (bn := b3) (bs := b2) (F := F) h0 h9 (hx x hm))) (by omega)) ?_
          rintro _ _ _ ⟨oa2, on2, oc2, rfl, holn2, rfl, rfl⟩
          refine L.norm qA qA ?_
          refine L.unfold [cl b3 3 [.int .i64 now], cl b2 24 [.pointer (some ⟨b, 0, none⟩)], cl b 59 (swC bb q o oa on oc lm sq), bookA bb (delS (lateB now) (silS now) F ol)] qP rfl qA ?_
          refine A.backT rfl qD ?_
          refine A.nilCheckP (i := 7) rfl rfl (by kernel_rfl) (by kernel_rfl) (by kernel_rfl) rfl qD rfl ?_
          refine A.takeP (i := 8) rfl rfl rfl rfl (by kernel_rfl) (by kernel_rfl) (by kernel_rfl) rfl qD ?_
          first | refine L.field0 rfl fo59_3 rfl ?_ | refine L.field rfl fo59_3 rfl ?_
          refine A.took ?_
          refine A.branch (is := [9]) (by kernel_rfl) (by decide) (Each.cons rfl ?_ <| Each.nil) 
          refine L.store sc56 rfl rfl rfl qU qE ?_
          refine A.backT rfl qD ?_
          refine A.done (by kernel_rfl) ?_
          refine T.thenN ?_
          exact T.toJoin ⟨_, _, _, holn2, rfl, rfl, rfl⟩ (SubK.nil _) (.cons (t := 2) rfl <| .cons (t := 3) rfl <| SubK.nil _) qD qD qF
        · skip
          refine L.makeFunc rfl (evs.cons rfl <| evs.cons rfl <| evs.nil) ?_
          refine A.backT rfl qD ?_
          refine A.branch (is := [0, 6]) (by kernel_rfl) (by decide) (Each.cons rfl ?_ <| Each.cons rfl ?_ <| Each.nil) 
          · skip
            refine L.load rfl sc24 rfl qC ?_
            refine A.backT rfl qD ?_
            refine A.branch (is := [6]) (by kernel_rfl) (by decide) (Each.cons rfl ?_ <| Each.nil) 
            refine L.foldAs (all [cl b3 3 [.int .i64 now], cl b2 24 [.pointer (some ⟨b, 0, none⟩)], cl b 59 (swC bb q o oa on oc lm sq), bookA bb F]) qS rfl ?_
            refine L.call rfl (evs.cons rfl <| evs.cons rfl <| evs.nil) qD qS (delo_spec (St := Int → Mind) (g := 55) (caps := [.pointer (some ⟨b3, 0, none⟩), .pointer (some ⟨b2, 0, none⟩)]) (Ac := fun F => all [cl b3 3 [.int .i64 now], cl b2 24 [.pointer (some ⟨b, 0, none⟩)], cl b 59 (swC bb q o oa on oc lm sq), bookA bb F]) (p := lateB now) (st := silS now) (s := F) (xs := ol) (fun F x hm => specAllM (tick1_spec (bn := b3) (bs := b2) (F := F) h0 h9 (hx x hm))) (by omega)) ?_
            rintro _ _ _ ⟨oa2, on2, oc2, rfl, holn2, rfl, rfl⟩
            refine L.norm qA qA ?_
            refine L.unfold [cl b3 3 [.int .i64 now], cl b2 24 [.pointer (some ⟨b, 0, none⟩)], cl b 59 (swC bb q o oa on oc lm sq), bookA bb (delS (lateB now) (silS now) F ol)] qP rfl qA ?_
            refine A.backT rfl qD ?_
            refine A.nilCheckP (i := 7) rfl rfl (by kernel_rfl) (by kernel_rfl) (by kernel_rfl) rfl qD rfl ?_
            refine A.takeP (i := 8) rfl rfl rfl rfl (by kernel_rfl) (by kernel_rfl) (by kernel_rfl) rfl qD ?_
            first | refine L.field0 rfl fo59_3 rfl ?_ | refine L.field rfl fo59_3 rfl ?_
            refine A.took ?_
            refine A.branch (is := [9]) (by kernel_rfl) (by decide) (Each.cons rfl ?_ <| Each.nil) 
            refine L.store sc56 rfl rfl rfl qU qE ?_
            refine A.backT rfl qD ?_
            refine A.done (by kernel_rfl) ?_
            refine T.thenN ?_
            exact T.toJoin ⟨_, _, _, holn2, rfl, rfl, rfl⟩ (SubK.nil _) (.cons (t := 2) rfl <| .cons (t := 3) rfl <| SubK.nil _) qD qD qF
          · skip
            refine L.foldAs (all [cl b3 3 [.int .i64 now], cl b2 24 [.pointer (some ⟨b, 0, none⟩)], cl b 59 (swC bb q o oa on oc lm sq), bookA bb F]) qS rfl ?_
            refine L.call rfl (evs.cons rfl <| evs.cons rfl <| evs.nil) qD qS (delo_spec (St := Int → Mind) (g := 55) (caps := [.pointer (some ⟨b3, 0, none⟩), .pointer (some ⟨b2, 0, none⟩)]) (Ac := fun F => all [cl b3 3 [.int .i64 now], cl b2 24 [.pointer (some ⟨b, 0, none⟩)], cl b 59 (swC bb q o oa on oc lm sq), bookA bb F]) (p := lateB now) (st := silS now) (s := F) (xs := ol) (fun F x hm => specAllM (tick1_spec (bn := b3) (bs := b2) (F := F) h0 h9 (hx x hm))) (by omega)) ?_
            rintro _ _ _ ⟨oa2, on2, oc2, rfl, holn2, rfl, rfl⟩
            refine L.norm qA qA ?_
            refine L.unfold [cl b3 3 [.int .i64 now], cl b2 24 [.pointer (some ⟨b, 0, none⟩)], cl b 59 (swC bb q o oa on oc lm sq), bookA bb (delS (lateB now) (silS now) F ol)] qP rfl qA ?_
            refine A.backT rfl qD ?_
            refine A.branch (is := [0]) (by kernel_rfl) (by decide) (Each.cons rfl ?_ <| Each.nil) 
            refine L.load rfl sc24 rfl qC ?_
            refine A.backT rfl qD ?_
            refine A.nilCheckP (i := 7) rfl rfl (by kernel_rfl) (by kernel_rfl) (by kernel_rfl) rfl qD rfl ?_
            refine A.takeP (i := 8) rfl rfl rfl rfl (by kernel_rfl) (by kernel_rfl) (by kernel_rfl) rfl qD ?_
            first | refine L.field0 rfl fo59_3 rfl ?_ | refine L.field rfl fo59_3 rfl ?_
            refine A.took ?_
            refine A.branch (is := [9]) (by kernel_rfl) (by decide) (Each.cons rfl ?_ <| Each.nil) 
            refine L.store sc56 rfl rfl rfl qU qE ?_
            refine A.backT rfl qD ?_
            refine A.done (by kernel_rfl) ?_
            refine T.thenN ?_
            exact T.toJoin ⟨_, _, _, holn2, rfl, rfl, rfl⟩ (SubK.nil _) (.cons (t := 2) rfl <| .cons (t := 3) rfl <| SubK.nil _) qD qD qF
      · skip
        refine L.makeFunc rfl (evs.cons rfl <| evs.cons rfl <| evs.nil) ?_
        refine A.backT rfl qD ?_
        refine A.branch (is := [0, 4]) (by kernel_rfl) (by decide) (Each.cons rfl ?_ <| Each.cons rfl ?_ <| Each.nil) 
        · skip
          refine L.load rfl sc24 rfl qC ?_
          refine A.backT rfl qD ?_
          refine A.branch (is := [4]) (by kernel_rfl) (by decide) (Each.cons rfl ?_ <| Each.nil) 
          refine L.load rfl sc56 rfl qC ?_
          refine A.backT rfl qD ?_
          refine A.branch (is := [6]) (by kernel_rfl) (by decide) (Each.cons rfl ?_ <| Each.nil) 
          refine L.foldAs (all [cl b3 3 [.int .i64 now], cl b2 24 [.pointer (some ⟨b, 0, none⟩)], cl b 59 (swC bb q o oa on oc lm sq), bookA bb F]) qS rfl ?_
          refine L.call rfl (evs.cons rfl <| evs.cons rfl <| evs.nil) qD qS (delo_spec (St := Int → Mind) (g := 55) (caps := [.pointer (some ⟨b3, 0, none⟩), .pointer (some ⟨b2, 0, none⟩)]) (Ac := fun F => all [cl b3 3 [.int .i64 now], cl b2 24 [.pointer (some ⟨b, 0, none⟩)], cl b 59 (swC bb q o oa on oc lm sq), bookA bb F]) (p := lateB now) (st := silS now) (s := F) (xs := ol) (fun F x hm => specAllM (tick1_spec (bn := b3) (bs := b2) (F := F) h0 h9 (hx x hm))) (by omega)) ?_
          rintro _ _ _ ⟨oa2, on2, oc2, rfl, holn2, rfl, rfl⟩
          refine L.norm qA qA ?_
          refine L.unfold [cl b3 3 [.int .i64 now], cl b2 24 [.pointer (some ⟨b, 0, none⟩)], cl b 59 (swC bb q o oa on oc lm sq), bookA bb (delS (lateB now) (silS now) F ol)] qP rfl qA ?_
          refine A.backT rfl qD ?_
          refine A.nilCheckP (i := 7) rfl rfl (by kernel_rfl) (by kernel_rfl) (by kernel_rfl) rfl qD rfl ?_
          refine A.takeP (i := 8) rfl rfl rfl rfl (by kernel_rfl) (by kernel_rfl) (by kernel_rfl) rfl qD ?_
          first | refine L.field0 rfl fo59_3 rfl ?_ | refine L.field rfl fo59_3 rfl ?_
          refine A.took ?_
          refine A.branch (is := [9]) (by kernel_rfl) (by decide) (Each.cons rfl ?_ <| Each.nil) 
          refine L.store sc56 rfl rfl rfl qU qE ?_
          refine A.backT rfl qD ?_
          refine A.done (by kernel_rfl) ?_
          refine T.thenN ?_
          exact T.toJoin ⟨_, _, _, holn2, rfl, rfl, rfl⟩ (SubK.nil _) (.cons (t := 2) rfl <| .cons (t := 3) rfl <| SubK.nil _) qD qD qF
        · skip
          refine L.load rfl sc56 rfl qC ?_
          refine A.backT rfl qD ?_
          refine A.branch (is := [0, 6]) (by kernel_rfl) (by decide) (Each.cons rfl ?_ <| Each.cons rfl ?_ <| Each.nil) 
          · skip
            refine L.load rfl sc24 rfl qC ?_
            refine A.backT rfl qD ?_
            refine A.branch (is := [6]) (by kernel_rfl) (by decide) (Each.cons rfl ?_ <| Each.nil) 
            refine L.foldAs (all [cl b3 3 [.int .i64 now], cl b2 24 [.pointer (some ⟨b, 0, none⟩)], cl b 59 (swC bb q o oa on oc lm sq), bookA bb F]) qS rfl ?_
            refine L.call rfl (evs.cons rfl <| evs.cons rfl <| evs.nil) qD qS (delo_spec (St := Int → Mind) (g := 55) (caps := [.pointer (some ⟨b3, 0, none⟩), .pointer (some ⟨b2, 0, none⟩)]) (Ac := fun F => all [cl b3 3 [.int .i64 now], cl b2 24 [.pointer (some ⟨b, 0, none⟩)], cl b 59 (swC bb q o oa on oc lm sq), bookA bb F]) (p := lateB now) (st := silS now) (s := F) (xs := ol) (fun F x hm => specAllM (tick1_spec (bn := b3) (bs := b2) (F := F) h0 h9 (hx x hm))) (by omega)) ?_
            rintro _ _ _ ⟨oa2, on2, oc2, rfl, holn2, rfl, rfl⟩
            refine L.norm qA qA ?_
            refine L.unfold [cl b3 3 [.int .i64 now], cl b2 24 [.pointer (some ⟨b, 0, none⟩)], cl b 59 (swC bb q o oa on oc lm sq), bookA bb (delS (lateB now) (silS now) F ol)] qP rfl qA ?_
            refine A.backT rfl qD ?_
            refine A.nilCheckP (i := 7) rfl rfl (by kernel_rfl) (by kernel_rfl) (by kernel_rfl) rfl qD rfl ?_
            refine A.takeP (i := 8) rfl rfl rfl rfl (by kernel_rfl) (by kernel_rfl) (by kernel_rfl) rfl qD ?_
            first | refine L.field0 rfl fo59_3 rfl ?_ | refine L.field rfl fo59_3 rfl ?_
            refine A.took ?_
            refine A.branch (is := [9]) (by kernel_rfl) (by decide) (Each.cons rfl ?_ <| Each.nil) 
            refine L.store sc56 rfl rfl rfl qU qE ?_
            refine A.backT rfl qD ?_
            refine A.done (by kernel_rfl) ?_
            refine T.thenN ?_
            exact T.toJoin ⟨_, _, _, holn2, rfl, rfl, rfl⟩ (SubK.nil _) (.cons (t := 2) rfl <| .cons (t := 3) rfl <| SubK.nil _) qD qD qF
          · skip
            refine L.foldAs (all [cl b3 3 [.int .i64 now], cl b2 24 [.pointer (some ⟨b, 0, none⟩)], cl b 59 (swC bb q o oa on oc lm sq), bookA bb F]) qS rfl ?_
            refine L.call rfl (evs.cons rfl <| evs.cons rfl <| evs.nil) qD qS (delo_spec (St := Int → Mind) (g := 55) (caps := [.pointer (some ⟨b3, 0, none⟩), .pointer (some ⟨b2, 0, none⟩)]) (Ac := fun F => all [cl b3 3 [.int .i64 now], cl b2 24 [.pointer (some ⟨b, 0, none⟩)], cl b 59 (swC bb q o oa on oc lm sq), bookA bb F]) (p := lateB now) (st := silS now) (s := F) (xs := ol) (fun F x hm => specAllM (tick1_spec (bn := b3) (bs := b2) (F := F) h0 h9 (hx x hm))) (by omega)) ?_
            rintro _ _ _ ⟨oa2, on2, oc2, rfl, holn2, rfl, rfl⟩
            refine L.norm qA qA ?_
            refine L.unfold [cl b3 3 [.int .i64 now], cl b2 24 [.pointer (some ⟨b, 0, none⟩)], cl b 59 (swC bb q o oa on oc lm sq), bookA bb (delS (lateB now) (silS now) F ol)] qP rfl qA ?_
            refine A.backT rfl qD ?_
            refine A.branch (is := [0]) (by kernel_rfl) (by decide) (Each.cons rfl ?_ <| Each.nil) 
            refine L.load rfl sc24 rfl qC ?_
            refine A.backT rfl qD ?_
            refine A.nilCheckP (i := 7) rfl rfl (by kernel_rfl) (by kernel_rfl) (by kernel_rfl) rfl qD rfl ?_
            refine A.takeP (i := 8) rfl rfl rfl rfl (by kernel_rfl) (by kernel_rfl) (by kernel_rfl) rfl qD ?_
            first | refine L.field0 rfl fo59_3 rfl ?_ | refine L.field rfl fo59_3 rfl ?_
            refine A.took ?_
            refine A.branch (is := [9]) (by kernel_rfl) (by decide) (Each.cons rfl ?_ <| Each.nil) 
            refine L.store sc56 rfl rfl rfl qU qE ?_
            refine A.backT rfl qD ?_
            refine A.done (by kernel_rfl) ?_
            refine T.thenN ?_
            exact T.toJoin ⟨_, _, _, holn2, rfl, rfl, rfl⟩ (SubK.nil _) (.cons (t := 2) rfl <| .cons (t := 3) rfl <| SubK.nil _) qD qD qF
    · skip
      refine L.makeFunc rfl (evs.cons rfl <| evs.cons rfl <| evs.nil) ?_
      refine A.backT rfl qD ?_
      refine A.branch (is := [0, 1]) (by kernel_rfl) (by decide) (Each.cons rfl ?_ <| Each.cons rfl ?_ <| Each.nil) 
      · skip
        refine L.load rfl sc24 rfl qC ?_
        refine A.backT rfl qD ?_
        refine A.branch (is := [1]) (by kernel_rfl) (by decide) (Each.cons rfl ?_ <| Each.nil) 
        refine L.load rfl sc24 rfl qC ?_
        refine A.backT rfl qD ?_
        refine A.nilCheckP (i := 2) rfl rfl (by kernel_rfl) (by kernel_rfl) (by kernel_rfl) rfl qD rfl ?_
        refine A.takeP (i := 3) rfl rfl rfl rfl (by kernel_rfl) (by kernel_rfl) (by kernel_rfl) rfl qD ?_
        first | refine L.field0 rfl fo59_3 rfl ?_ | refine L.field rfl fo59_3 rfl ?_
        refine A.took ?_
        refine A.branch (is := [4]) (by kernel_rfl) (by decide) (Each.cons rfl ?_ <| Each.nil) 
        refine L.load rfl sc56 rfl qC ?_
        refine A.backT rfl qD ?_
        refine A.branch (is := [6]) (by kernel_rfl) (by decide) (Each.cons rfl ?_ <| Each.nil) 
        refine L.foldAs (all [cl b3 3 [.int .i64 now], cl b2 24 [.pointer (some ⟨b, 0, none⟩)], cl b 59 (swC bb q o oa on oc lm sq), bookA bb F]) qS rfl ?_
        refine L.call rfl (evs.cons rfl <| evs.cons rfl <| evs.nil) qD qS (delo_spec (St := Int → Mind) (g := 55) (caps := [.pointer (some ⟨b3, 0, none⟩), .pointer (some ⟨b2, 0, none⟩)]) (Ac := fun F => all [cl b3 3 [.int .i64 now], cl b2 24 [.pointer (some ⟨b, 0, none⟩)], cl b 59 (swC bb q o oa on oc lm sq), bookA bb F]) (p := lateB now) (st := silS now) (s := F) (xs := ol) (fun F x hm => specAllM (tick1_spec (bn := b3) (bs := b2) (F := F) h0 h9 (hx x hm))) (by omega)) ?_
        rintro _ _ _ ⟨oa2, on2, oc2, rfl, holn2, rfl, rfl⟩
        refine L.norm qA qA ?_
        refine L.unfold [cl b3 3 [.int .i64 now], cl b2 24 [.pointer (some ⟨b, 0, none⟩)], cl b 59 (swC bb q o oa on oc lm sq), bookA bb (delS (lateB now) (silS now) F ol)] qP rfl qA ?_
        refine A.backT rfl qD ?_
        refine A.nilCheckP (i := 7) rfl rfl (by kernel_rfl) (by kernel_rfl) (by kernel_rfl) rfl qD rfl ?_
        refine A.takeP (i := 8) rfl rfl rfl rfl (by kernel_rfl) (by kernel_rfl) (by kernel_rfl) rfl qD ?_
        first | refine L.field0 rfl fo59_3 rfl ?_ | refine L.field rfl fo59_3 rfl ?_
        refine A.took ?_
        refine A.branch (is := [9]) (by kernel_rfl) (by decide) (Each.cons rfl ?_ <| Each.nil) 
        refine L.store sc56 rfl rfl rfl qU qE ?_
        refine A.backT rfl qD ?_
        refine A.done (by kernel_rfl) ?_
        refine T.thenN ?_
        exact T.toJoin ⟨_, _, _, holn2, rfl, rfl, rfl⟩ (SubK.nil _) (.cons (t := 2) rfl <| .cons (t := 3) rfl <| SubK.nil _) qD qD qF
      · skip
        refine L.load rfl sc24 rfl qC ?_
        refine A.backT rfl qD ?_
        refine A.nilCheckP (i := 2) rfl rfl (by kernel_rfl) (by kernel_rfl) (by kernel_rfl) rfl qD rfl ?_
        refine A.takeP (i := 3) rfl rfl rfl rfl (by kernel_rfl) (by kernel_rfl) (by kernel_rfl) rfl qD ?_
        first | refine L.field0 rfl fo59_3 rfl ?_ | refine L.field rfl fo59_3 rfl ?_
        refine A.took ?_
        refine A.branch (is := [0, 4]) (by kernel_rfl) (by decide) (Each.cons rfl ?_ <| Each.cons rfl ?_ <| Each.nil) 
        · skip
          refine L.load rfl sc24 rfl qC ?_
          refine A.backT rfl qD ?_
          refine A.branch (is := [4]) (by kernel_rfl) (by decide) (Each.cons rfl ?_ <| Each.nil) 
          refine L.load rfl sc56 rfl qC ?_
          refine A.backT rfl qD ?_
          refine A.branch (is := [6]) (by kernel_rfl) (by decide) (Each.cons rfl ?_ <| Each.nil) 
          refine L.foldAs (all [cl b3 3 [.int .i64 now], cl b2 24 [.pointer (some ⟨b, 0, none⟩)], cl b 59 (swC bb q o oa on oc lm sq), bookA bb F]) qS rfl ?_
          refine L.call rfl (evs.cons rfl <| evs.cons rfl <| evs.nil) qD qS (delo_spec (St := Int → Mind) (g := 55) (caps := [.pointer (some ⟨b3, 0, none⟩), .pointer (some ⟨b2, 0, none⟩)]) (Ac := fun F => all [cl b3 3 [.int .i64 now], cl b2 24 [.pointer (some ⟨b, 0, none⟩)], cl b 59 (swC bb q o oa on oc lm sq), bookA bb F]) (p := lateB now) (st := silS now) (s := F) (xs := ol) (fun F x hm => specAllM (tick1_spec (bn := b3) (bs := b2) (F := F) h0 h9 (hx x hm))) (by omega)) ?_
          rintro _ _ _ ⟨oa2, on2, oc2, rfl, holn2, rfl, rfl⟩
          refine L.norm qA qA ?_
          refine L.unfold [cl b3 3 [.int .i64 now], cl b2 24 [.pointer (some ⟨b, 0, none⟩)], cl b 59 (swC bb q o oa on oc lm sq), bookA bb (delS (lateB now) (silS now) F ol)] qP rfl qA ?_
          refine A.backT rfl qD ?_
          refine A.nilCheckP (i := 7) rfl rfl (by kernel_rfl) (by kernel_rfl) (by kernel_rfl) rfl qD rfl ?_
          refine A.takeP (i := 8) rfl rfl rfl rfl (by kernel_rfl) (by kernel_rfl) (by kernel_rfl) rfl qD ?_
          first | refine L.field0 rfl fo59_3 rfl ?_ | refine L.field rfl fo59_3 rfl ?_
          refine A.took ?_
          refine A.branch (is := [9]) (by kernel_rfl) (by decide) (Each.cons rfl ?_ <| Each.nil) 
          refine L.store sc56 rfl rfl rfl qU qE ?_
          refine A.backT rfl qD ?_
          refine A.done (by kernel_rfl) ?_
          refine T.thenN ?_
          exact T.toJoin ⟨_, _, _, holn2, rfl, rfl, rfl⟩ (SubK.nil _) (.cons (t := 2) rfl <| .cons (t := 3) rfl <| SubK.nil _) qD qD qF
        · skip
          refine L.load rfl sc56 rfl qC ?_
          refine A.backT rfl qD ?_
          refine A.branch (is := [0, 6]) (by kernel_rfl) (by decide) (Each.cons rfl ?_ <| Each.cons rfl ?_ <| Each.nil) 
          · skip
            refine L.load rfl sc24 rfl qC ?_
            refine A.backT rfl qD ?_
            refine A.branch (is := [6]) (by kernel_rfl) (by decide) (Each.cons rfl ?_ <| Each.nil) 
            refine L.foldAs (all [cl b3 3 [.int .i64 now], cl b2 24 [.pointer (some ⟨b, 0, none⟩)], cl b 59 (swC bb q o oa on oc lm sq), bookA bb F]) qS rfl ?_
            refine L.call rfl (evs.cons rfl <| evs.cons rfl <| evs.nil) qD qS (delo_spec (St := Int → Mind) (g := 55) (caps := [.pointer (some ⟨b3, 0, none⟩), .pointer (some ⟨b2, 0, none⟩)]) (Ac := fun F => all [cl b3 3 [.int .i64 now], cl b2 24 [.pointer (some ⟨b, 0, none⟩)], cl b 59 (swC bb q o oa on oc lm sq), bookA bb F]) (p := lateB now) (st := silS now) (s := F) (xs := ol) (fun F x hm => specAllM (tick1_spec (bn := b3) (bs := b2) (F := F) h0 h9 (hx x hm))) (by omega)) ?_
            rintro _ _ _ ⟨oa2, on2, oc2, rfl, holn2, rfl, rfl⟩
            refine L.norm qA qA ?_
            refine L.unfold [cl b3 3 [.int .i64 now], cl b2 24 [.pointer (some ⟨b, 0, none⟩)], cl b 59 (swC bb q o oa on oc lm sq), bookA bb (delS (lateB now) (silS now) F ol)] qP rfl qA ?_
            refine A.backT rfl qD ?_
            refine A.nilCheckP (i := 7) rfl rfl (by kernel_rfl) (by kernel_rfl) (by kernel_rfl) rfl qD rfl ?_
            refine A.takeP (i := 8) rfl rfl rfl rfl (by kernel_rfl) (by kernel_rfl) (by kernel_rfl) rfl qD ?_
            first | refine L.field0 rfl fo59_3 rfl ?_ | refine L.field rfl fo59_3 rfl ?_
            refine A.took ?_
            refine A.branch (is := [9]) (by kernel_rfl) (by decide) (Each.cons rfl ?_ <| Each.nil) 
            refine L.store sc56 rfl rfl rfl qU qE ?_
            refine A.backT rfl qD ?_
            refine A.done (by kernel_rfl) ?_
            refine T.thenN ?_
            exact T.toJoin ⟨_, _, _, holn2, rfl, rfl, rfl⟩ (SubK.nil _) (.cons (t := 2) rfl <| .cons (t := 3) rfl <| SubK.nil _) qD qD qF
          · skip
            refine L.foldAs (all [cl b3 3 [.int .i64 now], cl b2 24 [.pointer (some ⟨b, 0, none⟩)], cl b 59 (swC bb q o oa on oc lm sq), bookA bb F]) qS rfl ?_
            refine L.call rfl (evs.cons rfl <| evs.cons rfl <| evs.nil) qD qS (delo_spec (St := Int → Mind) (g := 55) (caps := [.pointer (some ⟨b3, 0, none⟩), .pointer (some ⟨b2, 0, none⟩)]) (Ac := fun F => all [cl b3 3 [.int .i64 now], cl b2 24 [.pointer (some ⟨b, 0, none⟩)], cl b 59 (swC bb q o oa on oc lm sq), bookA bb F]) (p := lateB now) (st := silS now) (s := F) (xs := ol) (fun F x hm => specAllM (tick1_spec (bn := b3) (bs := b2) (F := F) h0 h9 (hx x hm))) (by omega)) ?_
            rintro _ _ _ ⟨oa2, on2, oc2, rfl, holn2, rfl, rfl⟩
            refine L.norm qA qA ?_
            refine L.unfold [cl b3 3 [.int .i64 now], cl b2 24 [.pointer (some ⟨b, 0, none⟩)], cl b 59 (swC bb q o oa on oc lm sq), bookA bb (delS (lateB now) (silS now) F ol)] qP rfl qA ?_
            refine A.backT rfl qD ?_
            refine A.branch (is := [0]) (by kernel_rfl) (by decide) (Each.cons rfl ?_ <| Each.nil) 
            refine L.load rfl sc24 rfl qC ?_
            refine A.backT rfl qD ?_
            refine A.nilCheckP (i := 7) rfl rfl (by kernel_rfl) (by kernel_rfl) (by kernel_rfl) rfl qD rfl ?_
            refine A.takeP (i := 8) rfl rfl rfl rfl (by kernel_rfl) (by kernel_rfl) (by kernel_rfl) rfl qD ?_
            first | refine L.field0 rfl fo59_3 rfl ?_ | refine L.field rfl fo59_3 rfl ?_
            refine A.took ?_
            refine A.branch (is := [9]) (by kernel_rfl) (by decide) (Each.cons rfl ?_ <| Each.nil) 
            refine L.store sc56 rfl rfl rfl qU qE ?_
            refine A.backT rfl qD ?_
            refine A.done (by kernel_rfl) ?_
            refine T.thenN ?_
            exact T.toJoin ⟨_, _, _, holn2, rfl, rfl, rfl⟩ (SubK.nil _) (.cons (t := 2) rfl <| .cons (t := 3) rfl <| SubK.nil _) qD qD qF
  rintro _ _ _ ⟨oa2, on2, oc2, holn2, rfl, rfl, rfl⟩
  refine T.norm3 qA qA qA ?_
  refine T.thenN ?_
  refine T.seq ?_
  refine T.region ?_
  refine L.load rfl sc24 rfl qC ?_
  refine L.nilCheck rfl rfl ?_
  first | refine L.field0 rfl fo59_4 rfl ?_ | refine L.field rfl fo59_4 rfl ?_
  refine L.load rfl sc57 rfl qC ?_
  refine L.range (kenc := lkK) (venc := iK) rfl Tryz.underlying57 rfl qP (fun it => ?_)
  refine L.nil ?_
  refine T.thenN ?_
  refine T.block ?_
  refine T.eqv qP (show mpi lm it lkK iK lk (lk.map Prod.fst) none = mpi lm it lkK iK (keepK lk now (lk.map Prod.fst)) (lk.map Prod.fst) none from by rw [keep_0]) ?_
  refine T.loop (fun K' D' M' μ => ∃ (rest : List LK) (cur : Option LK), (rest.Nodup) ∧ K' = [] ∧ D' = [] ∧ M' = [mpi lm it lkK iK (keepK lk now rest) rest cur] ∧ μ = rest.length) (.cons (t := 2) rfl <| .cons (t := 3) rfl <| .cons (t := 19) rfl <| SubK.nil _) (⟨lk.map Prod.fst, none, hnd, rfl, rfl, rfl, rfl⟩) (SubK.nil _) qD qS ?_
  rintro K1 D1 M1 m1 ⟨rest, cur, hrn, rfl, rfl, rfl, rfl⟩
  refine T.norm3 qA qA qA ?_
  refine T.seq ?_
  refine T.region ?_
  refine L.next rfl rfl qP (fun hre => ?_) (fun k v rs hpe hkv => ?_)
  · skip
    skip
    refine L.extract rfl rfl rfl ?_
    refine L.nil ?_
    refine T.thenN ?_
    refine T.seq ?_
    refine T.condF rfl rfl ?_
    refine T.exit ?_
    refine T.thenX ?_
    refine T.thenX ?_
    refine T.blkX ?_
    subst hre
    refine T.mpiMp qP ?_
    refine T.eqv qP (show mp lm lkK iK (keepK lk now []) = mp lm lkK iK (lk.filter fun e => decide (now < e.2)) from by rw [keep_fin]) ?_
    exact T.retN (by simp) rfl ⟨_, _, _, rfl, holn2, rfl, rfl⟩ qD qF
  · skip
    have hks := keep_step hnd hrn hpe hkv
    refine L.extract rfl rfl rfl ?_
    refine L.nil ?_
    refine T.thenN ?_
    refine T.seq ?_
    refine T.condT rfl rfl ?_
    refine T.skip ?_
    refine T.thenN ?_
    refine T.block ?_
    refine T.seq ?_
    refine T.region ?_
    refine L.entry (ent_inj lkK_inj (keep_nd hnd) hkv) rfl rfl qM hkv ?_
    have hk32 := k.2.2
    refine L.extract rfl rfl rfl ?_
    refine L.extract rfl rfl rfl ?_
    refine L.alloc rfl ze125 (fun b4 => ?_)
    refine L.storeA ag125 rfl rfl qL qO qU qW ?_
    refine L.assign rfl rfl ?_
    refine L.nil ?_
    refine T.thenN ?_
    refine T.seq ?_
    refine T.region ?_
    refine L.move rfl rfl ?_
    refine L.load rfl sc3 rfl qC ?_
    refine L.leI rfl rfl rfl ?_
    refine L.nil ?_
    refine T.thenN ?_
    refine T.cond rfl (fun h27 => ?_) (fun h27 => ?_)
    · try simp only [decide_eq_true_eq, decide_eq_false_iff_not, Bool.not_eq_true', Bool.not_eq_false', Bool.and_eq_true, Bool.or_eq_true] at h27
      rw [if_pos h27] at hks
      refine T.regionA (clsL [0, 0, 1, 0, 0, 2]) (by kernel_rfl) ?_
      refine A.take (i := 0) rfl rfl rfl rfl (by kernel_rfl) (by kernel_rfl) (by kernel_rfl) (by kernel_rfl) rfl qD qF ?_
      refine L.load rfl sc24 rfl qC ?_
      refine A.took ?_
      refine A.nilCheck (i := 1) rfl rfl (by kernel_rfl) (by kernel_rfl) (by kernel_rfl) (by kernel_rfl) rfl qD qF rfl ?_
      refine A.takeP (i := 2) rfl rfl rfl rfl (by kernel_rfl) (by kernel_rfl) (by kernel_rfl) rfl qD ?_
      first | refine L.field0 rfl fo59_4 rfl ?_ | refine L.field rfl fo59_4 rfl ?_
      refine A.took ?_
      refine A.take (i := 3) rfl rfl rfl rfl (by kernel_rfl) (by kernel_rfl) (by kernel_rfl) (by kernel_rfl) rfl qD qF ?_
      refine L.load rfl sc57 rfl qC ?_
      refine A.took ?_
      refine A.take (i := 4) rfl rfl rfl rfl (by kernel_rfl) (by kernel_rfl) (by kernel_rfl) (by kernel_rfl) rfl qD qF ?_
      refine L.loadA rfl ag125 rfl qN ?_
      refine A.took ?_
      refine A.branch (is := [5]) (by kernel_rfl) (by decide) (Each.cons rfl ?_ <| Each.nil) 
      refine L.deleteI (kenc := lkK) (venc := iK) (l := keepK lk now rest) (k := k) (v0 := v) Tryz.underlying57 ktL rfl rfl (look_of_mem (keep_nd hnd) hkv) hks.2.1 qP ?_
      refine A.backT rfl qD ?_
      refine A.done (by kernel_rfl) ?_
      refine T.blkN ?_
      refine T.thenN ?_
      refine T.eqv qP (show mpi lm it lkK iK (del (keepK lk now rest) k) rs none = mpi lm it lkK iK (keepK lk now rs) rs none from by rw [hks.2.2]) ?_
      exact T.back ⟨rs, _, hks.1, rfl, rfl, rfl, rfl⟩ (by have := hpe.length_eq; simp at this; omega) (SubK.nil _) (.cons (t := 2) rfl <| .cons (t := 3) rfl <| .cons (t := 19) rfl <| SubK.nil _) qD qD qF
    · try simp only [decide_eq_true_eq, decide_eq_false_iff_not, Bool.not_eq_true', Bool.not_eq_false', Bool.and_eq_true, Bool.or_eq_true] at h27
      rw [if_neg h27] at hks
      refine T.skip ?_
      refine T.blkN ?_
      refine T.thenN ?_
      rw [hks.2.2]
      exact T.back ⟨rs, _, hks.1, rfl, rfl, rfl, rfl⟩ (by have := hpe.length_eq; simp at this; omega) (SubK.nil _) (.cons (t := 2) rfl <| .cons (t := 3) rfl <| .cons (t := 19) rfl <| SubK.nil _) qD qD qF
end Cv
