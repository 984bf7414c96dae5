/-
  The walks: the walks of getting and dropping.
-/
import Derived.Test.YtfkpgkgjamaoaaaL21
import Derived.Test.YtfkpgkgjamaoaaaProg
import Derived.KernelRfl
set_option linter.unusedVariables false
set_option linter.unusedSimpArgs false
set_option linter.unusedSectionVars false
set_option maxRecDepth 10000
namespace Cv
open Go Go.Proofs
theorem sz3 : Sz Try.prog 3 1 := fun w => by kernel_rfl
theorem sc3 : Sc Try.prog 3 := fun w => ⟨by kernel_rfl, by kernel_rfl⟩
set_option maxHeartbeats 400000 in
theorem keysitN_spec {c l : Nat} {ψ : Asn} {J : List Int → Asn}  : Spec Try.prog 32 [fnY l, .pointer (some ⟨c, 0, none⟩)] [cl c 32 [.map none], ψ] [all [], J []] (fun v D' M' => v = .tuple #[] ∧ D' = [] ∧ M' = [all [], J []]) := by
  refine Spec.intro (n := 14) Try.func32 rfl rfl (by decide) (Nat.le_of_ble_eq_true rfl) rfl (fun _ => qA) (fun _ => qA) ?_
  intro σ D M
  refine T.seq ?_
  refine T.region ?_
  refine L.load rfl sc32 rfl qC ?_
  refine L.rangeNil rfl Try.underlying32 rfl (fun it => ?_)
  refine L.nil ?_
  refine T.thenN ?_
  refine T.block ?_
  refine T.loop (fun K' D' M' μ => K' = [] ∧ D' = [] ∧ M' = [itN it, J []] ∧ μ = 0) (.cons (t := 0) rfl <| .cons (t := 5) rfl <| SubK.nil _) (⟨rfl, rfl, rfl, rfl⟩) (SubK.nil _) qD qS ?_
  rintro K1 D1 M1 m1 ⟨rfl, rfl, rfl, rfl⟩
  refine T.norm3 qA qA qA ?_
  refine T.seq ?_
  refine T.region ?_
  refine L.nextNil rfl rfl qM ?_
  refine L.extract rfl rfl rfl ?_
  refine L.nil ?_
  refine T.thenN ?_
  refine T.seq ?_
  refine T.condF rfl rfl ?_
  refine T.exit ?_
  refine T.thenX ?_
  refine T.thenX ?_
  refine T.blkX ?_
  exact T.retN (by simp) rfl ⟨rfl, rfl, rfl⟩ qD qF
theorem keys_iterN {c : Nat} : Iter Try.prog 32 [.pointer (some ⟨c, 0, none⟩)] (fun x : Int => [.int .i64 x]) (fun _ _ => False) (cl c 32 [.map none]) (all []) (all []) (fun xs => xs = []) :=
  ⟨fun l ψ J hY => (keysitN_spec (ψ := ψ) (J := J)).imp (fun v D' M' ⟨_, h3, h4⟩ => ⟨[], rfl, h3, h4⟩)⟩
set_option maxHeartbeats 400000 in
theorem keysN_spec   : Spec Try.prog 22 [.map none] [] [] (fun v D' M' => ∃ (c : Nat), v = fnV 32 [.pointer (some ⟨c, 0, none⟩)] ∧ D' = [cl c 32 [.map none]] ∧ M' = []) := by
  refine Spec.intro (n := 4) Try.func22 rfl rfl (by decide) (Nat.le_of_ble_eq_true rfl) rfl (fun _ => qA) (fun _ => qA) ?_
  intro σ D M
  refine T.seq ?_
  refine T.region ?_
  refine L.box rfl rfl rfl (fun b1 => ?_)
  refine L.assign rfl rfl ?_
  refine L.nil ?_
  refine T.freeze (A := cl b1 32 [.map none]) qP ?_
  refine T.thenN ?_
  refine T.seq ?_
  refine T.region ?_
  refine L.makeFunc rfl (evs.cons rfl <| evs.nil) ?_
  refine L.assign rfl rfl ?_
  refine L.nil ?_
  refine T.thenN ?_
  refine T.ret ?_
  exact T.ret1 rfl rfl ⟨_, rfl, rfl, rfl⟩ qD qF
set_option maxHeartbeats 400000 in
theorem getN_spec {b tm : Nat} {ml : ML} {k : ID32} {now : Int} (hl : look ml k = none) (hlen : ml.length ≤ 1000000) : Spec Try.prog 10 [.pointer (some ⟨b, 0, none⟩), .agg (k.1.map Y).toArray, .int .i64 now] [cl b 57 [.map (some tm)]] [mp tm aK rV2 ml, each rA2 ml] (fun v D' M' => ∃ (a' : Option Addr) (n' c' : Nat) (xs : List Int), v = .slice a' n' c' ∧ (xs.Perm (((rowT (er ml) k)).map Prod.fst)) ∧ ((getF ((rowT (er ml) k)) now (xs.mergeSort fun x y => decide (x ≤ y))).length = n') ∧ D' = [] ∧ M' = [tbA tm (er ml), own 1 3 a' n' c' ((getF ((rowT (er ml) k)) now (xs.mergeSort fun x y => decide (x ≤ y))).map e3)]) := by
  refine Spec.intro (n := 39) Try.func10 rfl rfl (by decide) (Nat.le_of_ble_eq_true rfl) rfl (fun _ => qA) (fun _ => qA) ?_
  intro σ D M
  rw [rowN hl]
  refine T.emp ?_
  refine T.seq ?_
  refine T.region ?_
  refine L.box rfl rfl rfl (fun b4 => ?_)
  refine L.assign rfl rfl ?_
  refine L.nil ?_
  refine T.freeze (A := cl b4 28 (k.1.map Y)) qP ?_
  refine T.thenN ?_
  refine T.seq ?_
  refine T.region ?_
  refine L.assign rfl rfl ?_
  refine L.nil ?_
  refine T.newOwn (sz := 1) (e := 3) ?_
  refine T.thenN ?_
  refine T.seq ?_
  refine T.seq ?_
  refine T.regionA (clsL [1, 1, 1, 1, 1, 2, 2, 2, 1, 1]) (by kernel_rfl) ?_
  refine A.takeP (i := 0) rfl rfl rfl rfl (by kernel_rfl) (by kernel_rfl) (by kernel_rfl) rfl qD ?_
  refine L.move rfl rfl ?_
  refine A.took ?_
  refine A.nilCheckP (i := 1) rfl rfl (by kernel_rfl) (by kernel_rfl) (by kernel_rfl) rfl qD rfl ?_
  refine A.takeP (i := 2) rfl rfl rfl rfl (by kernel_rfl) (by kernel_rfl) (by kernel_rfl) rfl qD ?_
  first | refine L.field0 rfl fo57_0 rfl ?_ | refine L.field rfl fo57_0 rfl ?_
  refine A.took ?_
  refine A.takeP (i := 3) rfl rfl rfl rfl (by kernel_rfl) (by kernel_rfl) (by kernel_rfl) rfl qD ?_
  refine L.load rfl sc55 rfl qC ?_
  refine A.took ?_
  refine A.takeP (i := 4) rfl rfl rfl rfl (by kernel_rfl) (by kernel_rfl) (by kernel_rfl) rfl qD ?_
  refine L.loadA rfl ag28 rfl qN ?_
  refine A.took ?_
  refine A.takeP (i := 9) rfl rfl rfl rfl (by kernel_rfl) (by kernel_rfl) (by kernel_rfl) rfl qD ?_
  refine L.move rfl rfl ?_
  refine A.took ?_
  refine A.branch (is := [5]) (by kernel_rfl) (by decide) (Each.cons rfl ?_ <| Each.nil) 
  refine L.lookup1 (kenc := aK) (venc := rV2) (l := ml) (k := k) rfl Try.underlying55 (keyT_arr Try.underlying28 Try.underlying5 sc5) zv32 rfl rfl qM ?_
  refine L.known (t := 15) (u := .map none) rfl (by rw [hl]; rfl) ?_
  refine A.backT rfl qD ?_
  refine A.branch (is := [6]) (by kernel_rfl) (by decide) (Each.cons rfl ?_ <| Each.nil) 
  refine L.call rfl (evs.cons rfl <| evs.nil) qD qS (keysN_spec) ?_
  rintro _ _ _ ⟨c16, rfl, rfl, rfl⟩
  refine L.norm qA qA ?_
  refine A.backT rfl qD ?_
  refine A.branch (is := [7]) (by kernel_rfl) (by decide) (Each.cons rfl ?_ <| Each.nil) 
  refine L.call rfl (evs.cons rfl <| evs.nil) qD qS (sorted_spec (keys_iterN (c := c16)) (fun pre x h => h.elim) (fun xs h => by subst h; decide)) ?_
  rintro _ _ _ ⟨sa, sn, sc, xs, rfl, hxs, hxl, rfl, rfl⟩
  refine L.norm qA qA ?_
  subst hxs
  subst hxl
  refine A.backT rfl qD ?_
  refine A.takeP (i := 8) rfl rfl rfl rfl (by kernel_rfl) (by kernel_rfl) (by kernel_rfl) rfl qD ?_
  refine L.lenSl rfl Try.underlying29 rfl ?_
  refine A.took ?_
  refine A.done (by kernel_rfl) ?_
  refine T.thenN ?_
  refine T.block ?_
  refine T.loop (fun K' D' M' μ => K' = [(19, .int .i64 0), (7, .slice none 0 0)] ∧ D' = [] ∧ M' = [own 1 3 none 0 0 []] ∧ μ = 0) (.cons (t := 0) rfl <| .cons (t := 2) rfl <| .cons (t := 4) rfl <| .cons (t := 17) rfl <| .cons (t := 18) rfl <| SubK.nil _) (⟨rfl, rfl, rfl, rfl⟩) (.cons (t := 19) rfl <| .cons (t := 7) rfl <| SubK.nil _) qD qS ?_
  rintro K1 D1 M1 m1 ⟨rfl, rfl, rfl, rfl⟩
  refine T.norm3 qA qA qA ?_
  refine T.seq ?_
  refine T.region ?_
  refine L.ltI rfl rfl rfl ?_
  refine L.nil ?_
  refine T.thenN ?_
  refine T.seq ?_
  refine T.condF rfl rfl ?_
  refine T.exit ?_
  refine T.thenX ?_
  refine T.thenX ?_
  refine T.blkX ?_
  refine T.thenN ?_
  refine T.seq ?_
  refine T.region ?_
  refine L.move rfl rfl ?_
  refine L.assign rfl rfl ?_
  refine L.nil ?_
  refine T.thenN ?_
  refine T.ret ?_
  refine T.eqv qP (show own 1 3 none 0 0 [] = own 1 3 none 0 0 ((getF [] now (([] : List Int).mergeSort fun x y => decide (x ≤ y))).map e3) from by simp [getF]) ?_
  refine T.tbShut (t := er ml) rfl qS ?_
  exact T.ret1 rfl rfl ⟨_, _, _, [], rfl, .refl _, (by simp [getF]), rfl, rfl⟩ qD qF
set_option maxHeartbeats 400000 in
theorem getS_spec {b tm : Nat} {ml : ML} {k : ID32} {now : Int} {rb : Nat} {row : Row21} (hl : look ml k = some (rb, row)) (hlen : row.length ≤ 1000000) : Spec Try.prog 10 [.pointer (some ⟨b, 0, none⟩), .agg (k.1.map Y).toArray, .int .i64 now] [cl b 57 [.map (some tm)]] [mp tm aK rV2 ml, each rA2 ml] (fun v D' M' => ∃ (a' : Option Addr) (n' c' : Nat) (xs : List Int), v = .slice a' n' c' ∧ (xs.Perm (((rowT (er ml) k)).map Prod.fst)) ∧ ((getF ((rowT (er ml) k)) now (xs.mergeSort fun x y => decide (x ≤ y))).length = n') ∧ D' = [] ∧ M' = [tbA tm (er ml), own 1 3 a' n' c' ((getF ((rowT (er ml) k)) now (xs.mergeSort fun x y => decide (x ≤ y))).map e3)]) := by
  refine Spec.intro (n := 39) Try.func10 rfl rfl (by decide) (Nat.le_of_ble_eq_true rfl) rfl (fun _ => qA) (fun _ => qA) ?_
  intro σ D M
  rw [rowS hl]
  refine T.rowOpen hl qP ?_
  refine T.seq ?_
  refine T.region ?_
  refine L.box rfl rfl rfl (fun b4 => ?_)
  refine L.assign rfl rfl ?_
  refine L.nil ?_
  refine T.freeze (A := cl b4 28 (k.1.map Y)) qP ?_
  refine T.thenN ?_
  refine T.seq ?_
  refine T.region ?_
  refine L.assign rfl rfl ?_
  refine L.nil ?_
  refine T.newOwn (sz := 1) (e := 3) ?_
  refine T.thenN ?_
  refine T.seq ?_
  refine T.seq ?_
  refine T.regionA (clsL [1, 1, 1, 1, 1, 2, 2, 2, 1, 1]) (by kernel_rfl) ?_
  refine A.takeP (i := 0) rfl rfl rfl rfl (by kernel_rfl) (by kernel_rfl) (by kernel_rfl) rfl qD ?_
  refine L.move rfl rfl ?_
  refine A.took ?_
  refine A.nilCheckP (i := 1) rfl rfl (by kernel_rfl) (by kernel_rfl) (by kernel_rfl) rfl qD rfl ?_
  refine A.takeP (i := 2) rfl rfl rfl rfl (by kernel_rfl) (by kernel_rfl) (by kernel_rfl) rfl qD ?_
  first | refine L.field0 rfl fo57_0 rfl ?_ | refine L.field rfl fo57_0 rfl ?_
  refine A.took ?_
  refine A.takeP (i := 3) rfl rfl rfl rfl (by kernel_rfl) (by kernel_rfl) (by kernel_rfl) rfl qD ?_
  refine L.load rfl sc55 rfl qC ?_
  refine A.took ?_
  refine A.takeP (i := 4) rfl rfl rfl rfl (by kernel_rfl) (by kernel_rfl) (by kernel_rfl) rfl qD ?_
  refine L.loadA rfl ag28 rfl qN ?_
  refine A.took ?_
  refine A.takeP (i := 9) rfl rfl rfl rfl (by kernel_rfl) (by kernel_rfl) (by kernel_rfl) rfl qD ?_
  refine L.move rfl rfl ?_
  refine A.took ?_
  refine A.branch (is := [5]) (by kernel_rfl) (by decide) (Each.cons rfl ?_ <| Each.nil) 
  refine L.lookup1 (kenc := aK) (venc := rV2) (l := ml) (k := k) rfl Try.underlying55 (keyT_arr Try.underlying28 Try.underlying5 sc5) zv32 rfl rfl qM ?_
  refine L.known (t := 15) (u := .map (some rb)) rfl (by rw [hl]; rfl) ?_
  refine A.backT rfl qD ?_
  refine A.branch (is := [6]) (by kernel_rfl) (by decide) (Each.cons rfl ?_ <| Each.nil) 
  refine L.call rfl (evs.cons rfl <| evs.nil) qD qS (keys_spec) ?_
  rintro _ _ _ ⟨c16, rfl, rfl, rfl⟩
  refine L.norm qA qA ?_
  refine A.backT rfl qD ?_
  refine A.branch (is := [7]) (by kernel_rfl) (by decide) (Each.cons rfl ?_ <| Each.nil) 
  refine L.call rfl (evs.cons rfl <| evs.nil) qD qS (sorted_spec (keys_iter (lh := row) (m := rb) (c := c16)) (fun pre x h => by omega) (fun xs h => by have := h.length_eq; simp at this; omega)) ?_
  rintro _ _ _ ⟨sa, sn, sc, xs, rfl, hxs, hxl, rfl, rfl⟩
  refine L.norm qA qA ?_
  refine A.backT rfl qD ?_
  refine A.takeP (i := 8) rfl rfl rfl rfl (by kernel_rfl) (by kernel_rfl) (by kernel_rfl) rfl qD ?_
  refine L.lenSl rfl Try.underlying29 rfl ?_
  refine A.took ?_
  refine A.done (by kernel_rfl) ?_
  refine T.ownRsl (rows := (xs.mergeSort fun x y => decide (x ≤ y)).map e3) qP ?_
  have hsl : (xs.mergeSort fun x y => decide (x ≤ y)).length = sn := by rw [List.length_mergeSort]; exact hxl
  have hsn : sn ≤ 1000000 := by have h1 := hxs.length_eq; simp only [List.length_map] at h1; omega
  refine T.thenN ?_
  refine T.block ?_
  refine T.eqv qP (show own 1 3 none 0 0 [] = own 1 3 none 0 0 ((getF row now ((xs.mergeSort fun x y => decide (x ≤ y)).take 0)).map e3) from by simp [getF]) ?_
  refine T.loop (fun K' D' M' μ => ∃ (i : Nat) (a7 : Option Addr) (n7 c7 : Nat), (i ≤ sn ∧ n7 ≤ i ∧ (getF row now ((xs.mergeSort fun x y => decide (x ≤ y)).take i)).length = n7) ∧ K' = [(19, .int .i64 i), (7, .slice a7 n7 c7)] ∧ D' = [] ∧ M' = [own 1 3 a7 n7 c7 ((getF row now ((xs.mergeSort fun x y => decide (x ≤ y)).take i)).map e3)] ∧ μ = sn - i) (.cons (t := 0) rfl <| .cons (t := 2) rfl <| .cons (t := 4) rfl <| .cons (t := 17) rfl <| .cons (t := 18) rfl <| SubK.nil _) (⟨0, none, 0, 0, ⟨by omega, by omega, rfl⟩, rfl, rfl, rfl, rfl⟩) (.cons (t := 19) rfl <| .cons (t := 7) rfl <| SubK.nil _) qD qS ?_
  rintro K1 D1 M1 m1 ⟨i, a7, n7, c7, ⟨hi, hi7, hgl⟩, rfl, rfl, rfl, rfl⟩
  refine T.norm3 qA qA qA ?_
  refine T.seq ?_
  refine T.region ?_
  refine L.ltI rfl rfl rfl ?_
  refine L.nil ?_
  refine T.thenN ?_
  refine T.seq ?_
  refine T.cond rfl (fun h20 => ?_) (fun h20 => ?_)
  · try simp only [decide_eq_true_eq, decide_eq_false_iff_not, Bool.not_eq_true', Bool.not_eq_false', Bool.and_eq_true, Bool.or_eq_true] at h20
    refine T.skip ?_
    refine T.thenN ?_
    refine T.seq ?_
    refine T.block ?_
    refine T.seq ?_
    have hgn : (xs.mergeSort fun x y => decide (x ≤ y))[i]? = some (gd (xs.mergeSort fun x y => decide (x ≤ y)) i) := gd_get (by omega)
    obtain ⟨n, hn⟩ : ∃ x, x = gd (xs.mergeSort fun x y => decide (x ≤ y)) i := ⟨_, rfl⟩
    rw [← hn] at hgn
    refine T.region ?_
    refine L.idx (i := i) rfl Try.underlying29 sz3 rfl rfl qM (by first | rfl | omega | (simp; done)) qG (fun b21 o21 => ?_)
    refine L.load rfl sc3 rfl qC ?_
    refine L.assign rfl rfl ?_
    refine L.nil ?_
    refine T.thenN ?_
    refine T.seq ?_
    refine T.regionQ (by kernel_rfl) (by kernel_rfl) ?_
    refine L.move rfl rfl ?_
    refine L.move rfl rfl ?_
    refine L.nilCheck rfl rfl ?_
    first | refine L.field0 rfl fo57_0 rfl ?_ | refine L.field rfl fo57_0 rfl ?_
    refine L.load rfl sc55 rfl qC ?_
    refine L.loadA rfl ag28 rfl qN ?_
    refine L.lookup1 (kenc := aK) (venc := rV2) (l := ml) (k := k) rfl Try.underlying55 (keyT_arr Try.underlying28 Try.underlying5 sc5) zv32 rfl rfl qM ?_
    refine L.known (t := 29) (u := .map (some rb)) rfl (by rw [hl]; rfl) ?_
    refine L.move rfl rfl ?_
    refine L.lookup1 (kenc := iK) (venc := iK) (b := rb) (l := row) (k := n) rfl Try.underlying32 kt3 zv3 rfl rfl qM ?_
    refine L.known (t := 31) (u := .int .i64 ((look row n).getD 0)) rfl (by cases look row n <;> rfl) ?_
    refine L.ltI rfl rfl rfl ?_
    refine L.nilQ ?_
    refine T.thenN ?_
    refine T.cond rfl (fun h32 => ?_) (fun h32 => ?_)
    · try simp only [decide_eq_true_eq, decide_eq_false_iff_not, Bool.not_eq_true', Bool.not_eq_false', Bool.and_eq_true, Bool.or_eq_true] at h32
      refine T.region ?_
      refine L.move rfl rfl ?_
      refine L.move rfl rfl ?_
      refine L.buildSlice rfl bs29 (by decide) (BP.one rfl rfl rfl <| BP.doneE (out := []) rfl) (fun b35 => ?_)
      refine L.append1 rfl Try.underlying29 el3 rfl rfl qP qM rfl qO1 qI qI (fun a36 c36 => ?_)
      refine L.assign rfl rfl ?_
      refine L.nil ?_
      refine T.blkN ?_
      refine T.thenN ?_
      refine T.region ?_
      refine L.addN rfl rfl rfl (by omega) ?_
      refine L.move rfl rfl ?_
      refine L.nil ?_
      refine T.thenN ?_
      refine T.ownEq _ ((getF row now ((xs.mergeSort fun x y => decide (x ≤ y)).take (i + 1))).map e3) qP (by rw [getF_take hgn, if_pos h32, List.map_append]; rfl) ?_
      exact T.back ⟨i + 1, _, n7 + 1, _, ⟨by omega, by omega, by rw [getF_take hgn, if_pos h32, List.length_append, hgl]; rfl⟩, rfl, rfl, rfl, rfl⟩ qI (.cons (t := 19) rfl <| .cons (t := 7) rfl <| SubK.nil _) (.cons (t := 0) rfl <| .cons (t := 2) rfl <| .cons (t := 4) rfl <| .cons (t := 17) rfl <| .cons (t := 18) rfl <| SubK.nil _) qD qD qF
    · try simp only [decide_eq_true_eq, decide_eq_false_iff_not, Bool.not_eq_true', Bool.not_eq_false', Bool.and_eq_true, Bool.or_eq_true] at h32
      refine T.skip ?_
      refine T.blkN ?_
      refine T.thenN ?_
      refine T.region ?_
      refine L.addN rfl rfl rfl (by omega) ?_
      refine L.move rfl rfl ?_
      refine L.nil ?_
      refine T.thenN ?_
      refine T.ownEq _ ((getF row now ((xs.mergeSort fun x y => decide (x ≤ y)).take (i + 1))).map e3) qP (by rw [getF_take hgn, if_neg h32, List.append_nil]) ?_
      exact T.back ⟨i + 1, _, n7, _, ⟨by omega, by omega, by rw [getF_take hgn, if_neg h32, List.append_nil]; exact hgl⟩, rfl, rfl, rfl, rfl⟩ qI (.cons (t := 19) rfl <| .cons (t := 7) rfl <| SubK.nil _) (.cons (t := 0) rfl <| .cons (t := 2) rfl <| .cons (t := 4) rfl <| .cons (t := 17) rfl <| .cons (t := 18) rfl <| SubK.nil _) qD qD qF
  · try simp only [decide_eq_true_eq, decide_eq_false_iff_not, Bool.not_eq_true', Bool.not_eq_false', Bool.and_eq_true, Bool.or_eq_true] at h20
    obtain rfl : i = sn := by omega
    rw [List.take_of_length_le (by omega)] at hgl ⊢
    refine T.exit ?_
    refine T.thenX ?_
    refine T.thenX ?_
    refine T.blkX ?_
    refine T.thenN ?_
    refine T.seq ?_
    refine T.region ?_
    refine L.move rfl rfl ?_
    refine L.assign rfl rfl ?_
    refine L.nil ?_
    refine T.thenN ?_
    refine T.ret ?_
    refine T.rowBack (t := er ml) rfl hl qS ?_
    exact T.ret1 rfl rfl ⟨_, _, _, xs, rfl, hxs, hgl, rfl, rfl⟩ qD qF
theorem get_spec {b tm : Nat} {t : Tb} {k : ID32} {now : Int} (h1 : t.length ≤ 1000000) (h2 : ∀ row, look t k = some row → row.length ≤ 1000000) : Spec Try.prog 10 [.pointer (some ⟨b, 0, none⟩), .agg (k.1.map Y).toArray, .int .i64 now] [cl b 57 [.map (some tm)]] [tbA tm t] (fun v D' M' => ∃ (a' : Option Addr) (n' c' : Nat) (xs : List Int), v = .slice a' n' c' ∧ xs.Perm ((rowT t k).map Prod.fst) ∧ (getF (rowT t k) now (xs.mergeSort fun x y => decide (x ≤ y))).length = n' ∧ D' = [] ∧ M' = [tbA tm t, own 1 3 a' n' c' ((getF (rowT t k) now (xs.mergeSort fun x y => decide (x ≤ y))).map e3)]) :=
  Spec.tb (IsFn.of Try.func10 rfl (by decide)) fun ml hm => by
    subst hm
    rcases hl : look ml k with _ | ⟨rb, row⟩
    · exact getN_spec hl (by rw [er_len] at h1; exact h1)
    · exact getS_spec hl (h2 row (by rw [look_er, hl]; rfl))
set_option maxHeartbeats 400000 in
theorem dropN_spec {b tm : Nat} {ml : ML} {k : ID32} {a : Option Addr} {len cap : Nat} {xs : List Int} (hl : look ml k = none) (hlen : ml.length ≤ 1000000) (hb : len ≤ 1000000) : Spec Try.prog 11 [.pointer (some ⟨b, 0, none⟩), .agg (k.1.map Y).toArray, .slice a len cap] [cl b 57 [.map (some tm)], rsl 1 a len cap (xs.map e3)] [mp tm aK rV2 ml, each rA2 ml] (fun v D' M' => v = .tuple #[] ∧ D' = [] ∧ M' = [tbA tm (dropT (er ml) k xs)]) := by
  refine Spec.intro (n := 35) Try.func11 rfl rfl (by decide) (Nat.le_of_ble_eq_true rfl) rfl (fun _ => qA) (fun _ => qA) ?_
  intro σ D M
  refine T.rslLen2 (rows := xs.map e3) qM (fun hxl hxc => ?_)
  rw [List.length_map] at hxl
  rw [dropN hl]
  refine T.seq ?_
  refine T.region ?_
  refine L.box rfl rfl rfl (fun b4 => ?_)
  refine L.nil ?_
  refine T.freeze (A := cl b4 28 (k.1.map Y)) qP ?_
  refine T.thenN ?_
  refine T.seq ?_
  refine T.seq ?_
  refine T.region ?_
  refine L.move rfl rfl ?_
  refine L.lenSl rfl Try.underlying29 rfl ?_
  refine L.move rfl rfl ?_
  refine L.nil ?_
  refine T.thenN ?_
  refine T.block ?_
  refine T.loop (fun K' D' M' μ => ∃ (i : Nat), (i ≤ len) ∧ K' = [(10, .int .i64 i)] ∧ D' = [] ∧ M' = [] ∧ μ = len - i) (.cons (t := 0) rfl <| .cons (t := 4) rfl <| .cons (t := 8) rfl <| .cons (t := 9) rfl <| SubK.nil _) (⟨0, Nat.zero_le _, rfl, rfl, rfl, rfl⟩) (.cons (t := 10) rfl <| SubK.nil _) qD qS ?_
  rintro K1 D1 M1 m1 ⟨i, hi, rfl, rfl, rfl, rfl⟩
  refine T.norm3 qA qA qA ?_
  refine T.seq ?_
  refine T.region ?_
  refine L.ltI rfl rfl rfl ?_
  refine L.nil ?_
  refine T.thenN ?_
  refine T.seq ?_
  refine T.cond rfl (fun h11 => ?_) (fun h11 => ?_)
  · try simp only [decide_eq_true_eq, decide_eq_false_iff_not, Bool.not_eq_true', Bool.not_eq_false', Bool.and_eq_true, Bool.or_eq_true] at h11
    refine T.skip ?_
    refine T.thenN ?_
    refine T.seq ?_
    refine T.block ?_
    refine T.seq ?_
    have hgn : xs[i]? = some (gd xs i) := gd_get (by omega)
    obtain ⟨n, hn⟩ : ∃ x, x = gd xs i := ⟨_, rfl⟩
    rw [← hn] at hgn
    refine T.region ?_
    refine L.idx (i := i) rfl Try.underlying29 sz3 rfl rfl qM (by first | rfl | omega | (simp; done)) qG (fun b12 o12 => ?_)
    refine L.load rfl sc3 rfl qC ?_
    refine L.assign rfl rfl ?_
    refine L.nil ?_
    refine T.thenN ?_
    refine T.regionA (clsL [1, 1, 1, 1, 1, 2, 1, 2]) (by kernel_rfl) ?_
    refine A.takeP (i := 0) rfl rfl rfl rfl (by kernel_rfl) (by kernel_rfl) (by kernel_rfl) rfl qD ?_
    refine L.move rfl rfl ?_
    refine A.took ?_
    refine A.nilCheckP (i := 1) rfl rfl (by kernel_rfl) (by kernel_rfl) (by kernel_rfl) rfl qD rfl ?_
    refine A.takeP (i := 2) rfl rfl rfl rfl (by kernel_rfl) (by kernel_rfl) (by kernel_rfl) rfl qD ?_
    first | refine L.field0 rfl fo57_0 rfl ?_ | refine L.field rfl fo57_0 rfl ?_
    refine A.took ?_
    refine A.takeP (i := 3) rfl rfl rfl rfl (by kernel_rfl) (by kernel_rfl) (by kernel_rfl) rfl qD ?_
    refine L.load rfl sc55 rfl qC ?_
    refine A.took ?_
    refine A.takeP (i := 4) rfl rfl rfl rfl (by kernel_rfl) (by kernel_rfl) (by kernel_rfl) rfl qD ?_
    refine L.loadA rfl ag28 rfl qN ?_
    refine A.took ?_
    refine A.takeP (i := 6) rfl rfl rfl rfl (by kernel_rfl) (by kernel_rfl) (by kernel_rfl) rfl qD ?_
    refine L.move rfl rfl ?_
    refine A.took ?_
    refine A.branch (is := [5]) (by kernel_rfl) (by decide) (Each.cons rfl ?_ <| Each.nil) 
    refine L.lookup1 (kenc := aK) (venc := rV2) (l := ml) (k := k) rfl Try.underlying55 (keyT_arr Try.underlying28 Try.underlying5 sc5) zv32 rfl rfl qM ?_
    refine L.known (t := 19) (u := .map none) rfl (by rw [hl]; rfl) ?_
    refine A.backT rfl qD ?_
    refine A.branch (is := [7]) (by kernel_rfl) (by decide) (Each.cons rfl ?_ <| Each.nil) 
    refine L.deleteNil (kenc := iK) (k := n) Try.underlying32 kt3 rfl rfl ?_
    refine A.backT rfl qD ?_
    refine A.done (by kernel_rfl) ?_
    refine T.blkN ?_
    refine T.thenN ?_
    refine T.region ?_
    refine L.addN rfl rfl rfl (by omega) ?_
    refine L.move rfl rfl ?_
    refine L.nil ?_
    refine T.thenN ?_
    exact T.back ⟨i + 1, (by omega), rfl, rfl, rfl, rfl⟩ qI (.cons (t := 10) rfl <| SubK.nil _) (.cons (t := 0) rfl <| .cons (t := 4) rfl <| .cons (t := 8) rfl <| .cons (t := 9) rfl <| SubK.nil _) qD qD qF
  · try simp only [decide_eq_true_eq, decide_eq_false_iff_not, Bool.not_eq_true', Bool.not_eq_false', Bool.and_eq_true, Bool.or_eq_true] at h11
    refine T.exit ?_
    refine T.thenX ?_
    refine T.thenX ?_
    refine T.blkX ?_
    refine T.thenN ?_
    refine T.seq ?_
    refine T.regionQ (by kernel_rfl) (by kernel_rfl) ?_
    refine L.move rfl rfl ?_
    refine L.nilCheck rfl rfl ?_
    first | refine L.field0 rfl fo57_0 rfl ?_ | refine L.field rfl fo57_0 rfl ?_
    refine L.load rfl sc55 rfl qC ?_
    refine L.loadA rfl ag28 rfl qN ?_
    refine L.lookup1 (kenc := aK) (venc := rV2) (l := ml) (k := k) rfl Try.underlying55 (keyT_arr Try.underlying28 Try.underlying5 sc5) zv32 rfl rfl qM ?_
    refine L.known (t := 27) (u := .map none) rfl (by rw [hl]; rfl) ?_
    refine L.lenNil rfl Try.underlying32 rfl ?_
    refine L.eqI rfl rfl rfl ?_
    refine L.nilQ ?_
    refine T.thenN ?_
    refine T.condT rfl rfl ?_
    refine T.regionA (clsL [1, 1, 1, 1, 1, 2]) (by kernel_rfl) ?_
    refine A.takeP (i := 0) rfl rfl rfl rfl (by kernel_rfl) (by kernel_rfl) (by kernel_rfl) rfl qD ?_
    refine L.move rfl rfl ?_
    refine A.took ?_
    refine A.nilCheckP (i := 1) rfl rfl (by kernel_rfl) (by kernel_rfl) (by kernel_rfl) rfl qD rfl ?_
    refine A.takeP (i := 2) rfl rfl rfl rfl (by kernel_rfl) (by kernel_rfl) (by kernel_rfl) rfl qD ?_
    first | refine L.field0 rfl fo57_0 rfl ?_ | refine L.field rfl fo57_0 rfl ?_
    refine A.took ?_
    refine A.takeP (i := 3) rfl rfl rfl rfl (by kernel_rfl) (by kernel_rfl) (by kernel_rfl) rfl qD ?_
    refine L.load rfl sc55 rfl qC ?_
    refine A.took ?_
    refine A.takeP (i := 4) rfl rfl rfl rfl (by kernel_rfl) (by kernel_rfl) (by kernel_rfl) rfl qD ?_
    refine L.loadA rfl ag28 rfl qN ?_
    refine A.took ?_
    refine A.branch (is := [5]) (by kernel_rfl) (by decide) (Each.cons rfl ?_ <| Each.nil) 
    refine L.delete (kenc := aK) (venc := rV2) (l := ml) (k := k) Try.underlying55 (keyT_arr Try.underlying28 Try.underlying5 sc5) rfl rfl qP ?_
    refine A.backT rfl qD ?_
    refine A.done (by kernel_rfl) ?_
    refine T.eqv qP (show mp tm aK rV2 (del ml k) = mp tm aK rV2 ml from by rw [del_none hl]) ?_
    refine T.tbShut (t := er ml) rfl qS ?_
    exact T.retN (by simp) rfl ⟨rfl, rfl, rfl⟩ qD qF
set_option maxHeartbeats 400000 in
theorem dropS_spec {b tm : Nat} {ml : ML} {k : ID32} {rb : Nat} {row : Row21} {a : Option Addr} {len cap : Nat} {xs : List Int} (hl : look ml k = some (rb, row)) (hlen : row.length ≤ 1000000) (hb : len ≤ 1000000) : Spec Try.prog 11 [.pointer (some ⟨b, 0, none⟩), .agg (k.1.map Y).toArray, .slice a len cap] [cl b 57 [.map (some tm)], rsl 1 a len cap (xs.map e3)] [mp tm aK rV2 ml, each rA2 ml] (fun v D' M' => v = .tuple #[] ∧ D' = [] ∧ M' = [tbA tm (dropT (er ml) k xs)]) := by
  refine Spec.intro (n := 35) Try.func11 rfl rfl (by decide) (Nat.le_of_ble_eq_true rfl) rfl (fun _ => qA) (fun _ => qA) ?_
  intro σ D M
  refine T.rslLen2 (rows := xs.map e3) qM (fun hxl hxc => ?_)
  rw [List.length_map] at hxl
  refine T.rowOpen hl qP ?_
  rw [dropS hl]
  refine T.seq ?_
  refine T.region ?_
  refine L.box rfl rfl rfl (fun b4 => ?_)
  refine L.nil ?_
  refine T.freeze (A := cl b4 28 (k.1.map Y)) qP ?_
  refine T.thenN ?_
  refine T.seq ?_
  refine T.seq ?_
  refine T.region ?_
  refine L.move rfl rfl ?_
  refine L.lenSl rfl Try.underlying29 rfl ?_
  refine L.move rfl rfl ?_
  refine L.nil ?_
  refine T.thenN ?_
  refine T.block ?_
  refine T.loop (fun K' D' M' μ => ∃ (i : Nat), (i ≤ len) ∧ K' = [(10, .int .i64 i)] ∧ D' = [] ∧ M' = [mp rb iK iK (delL row (xs.take i))] ∧ μ = len - i) (.cons (t := 0) rfl <| .cons (t := 4) rfl <| .cons (t := 8) rfl <| .cons (t := 9) rfl <| SubK.nil _) (⟨0, Nat.zero_le _, rfl, rfl, rfl, rfl⟩) (.cons (t := 10) rfl <| SubK.nil _) qD qS ?_
  rintro K1 D1 M1 m1 ⟨i, hi, rfl, rfl, rfl, rfl⟩
  refine T.norm3 qA qA qA ?_
  refine T.seq ?_
  refine T.region ?_
  refine L.ltI rfl rfl rfl ?_
  refine L.nil ?_
  refine T.thenN ?_
  refine T.seq ?_
  refine T.cond rfl (fun h11 => ?_) (fun h11 => ?_)
  · try simp only [decide_eq_true_eq, decide_eq_false_iff_not, Bool.not_eq_true', Bool.not_eq_false', Bool.and_eq_true, Bool.or_eq_true] at h11
    refine T.skip ?_
    refine T.thenN ?_
    refine T.seq ?_
    refine T.block ?_
    refine T.seq ?_
    have hgn : xs[i]? = some (gd xs i) := gd_get (by omega)
    obtain ⟨n, hn⟩ : ∃ x, x = gd xs i := ⟨_, rfl⟩
    rw [← hn] at hgn
    refine T.region ?_
    refine L.idx (i := i) rfl Try.underlying29 sz3 rfl rfl qM (by first | rfl | omega | (simp; done)) qG (fun b12 o12 => ?_)
    refine L.load rfl sc3 rfl qC ?_
    refine L.assign rfl rfl ?_
    refine L.nil ?_
    refine T.thenN ?_
    refine T.regionA (clsL [1, 1, 1, 1, 1, 2, 1, 2]) (by kernel_rfl) ?_
    refine A.takeP (i := 0) rfl rfl rfl rfl (by kernel_rfl) (by kernel_rfl) (by kernel_rfl) rfl qD ?_
    refine L.move rfl rfl ?_
    refine A.took ?_
    refine A.nilCheckP (i := 1) rfl rfl (by kernel_rfl) (by kernel_rfl) (by kernel_rfl) rfl qD rfl ?_
    refine A.takeP (i := 2) rfl rfl rfl rfl (by kernel_rfl) (by kernel_rfl) (by kernel_rfl) rfl qD ?_
    first | refine L.field0 rfl fo57_0 rfl ?_ | refine L.field rfl fo57_0 rfl ?_
    refine A.took ?_
    refine A.takeP (i := 3) rfl rfl rfl rfl (by kernel_rfl) (by kernel_rfl) (by kernel_rfl) rfl qD ?_
    refine L.load rfl sc55 rfl qC ?_
    refine A.took ?_
    refine A.takeP (i := 4) rfl rfl rfl rfl (by kernel_rfl) (by kernel_rfl) (by kernel_rfl) rfl qD ?_
    refine L.loadA rfl ag28 rfl qN ?_
    refine A.took ?_
    refine A.takeP (i := 6) rfl rfl rfl rfl (by kernel_rfl) (by kernel_rfl) (by kernel_rfl) rfl qD ?_
    refine L.move rfl rfl ?_
    refine A.took ?_
    refine A.branch (is := [5]) (by kernel_rfl) (by decide) (Each.cons rfl ?_ <| Each.nil) 
    refine L.lookup1 (kenc := aK) (venc := rV2) (l := ml) (k := k) rfl Try.underlying55 (keyT_arr Try.underlying28 Try.underlying5 sc5) zv32 rfl rfl qM ?_
    refine L.known (t := 19) (u := .map (some rb)) rfl (by rw [hl]; rfl) ?_
    refine A.backT rfl qD ?_
    refine A.branch (is := [7]) (by kernel_rfl) (by decide) (Each.cons rfl ?_ <| Each.nil) 
    refine L.delete (kenc := iK) (venc := iK) (l := delL row (xs.take i)) (k := n) Try.underlying32 kt3 rfl rfl qP ?_
    refine A.backT rfl qD ?_
    refine A.done (by kernel_rfl) ?_
    refine T.blkN ?_
    refine T.thenN ?_
    refine T.region ?_
    refine L.addN rfl rfl rfl (by omega) ?_
    refine L.move rfl rfl ?_
    refine L.nil ?_
    refine T.thenN ?_
    refine T.eqv qP (show mp rb iK iK (del (delL row (xs.take i)) n) = mp rb iK iK (delL row (xs.take (i + 1))) from by rw [delL_take hgn]) ?_
    exact T.back ⟨i + 1, (by omega), rfl, rfl, rfl, rfl⟩ qI (.cons (t := 10) rfl <| SubK.nil _) (.cons (t := 0) rfl <| .cons (t := 4) rfl <| .cons (t := 8) rfl <| .cons (t := 9) rfl <| SubK.nil _) qD qD qF
  · try simp only [decide_eq_true_eq, decide_eq_false_iff_not, Bool.not_eq_true', Bool.not_eq_false', Bool.and_eq_true, Bool.or_eq_true] at h11
    obtain rfl : i = len := by omega
    rw [List.take_of_length_le (by omega)]
    refine T.exit ?_
    refine T.thenX ?_
    refine T.thenX ?_
    refine T.blkX ?_
    refine T.thenN ?_
    refine T.seq ?_
    refine T.regionQ (by kernel_rfl) (by kernel_rfl) ?_
    refine L.move rfl rfl ?_
    refine L.nilCheck rfl rfl ?_
    first | refine L.field0 rfl fo57_0 rfl ?_ | refine L.field rfl fo57_0 rfl ?_
    refine L.load rfl sc55 rfl qC ?_
    refine L.loadA rfl ag28 rfl qN ?_
    refine L.lookup1 (kenc := aK) (venc := rV2) (l := ml) (k := k) rfl Try.underlying55 (keyT_arr Try.underlying28 Try.underlying5 sc5) zv32 rfl rfl qM ?_
    refine L.known (t := 27) (u := .map (some rb)) rfl (by rw [hl]; rfl) ?_
    refine L.lenMap (l := delL row xs) rfl Try.underlying32 rfl qM ?_
    refine L.eqI rfl rfl rfl ?_
    refine L.nilQ ?_
    refine T.thenN ?_
    refine T.cond rfl (fun h29 => ?_) (fun h29 => ?_)
    · try simp only [decide_eq_true_eq, decide_eq_false_iff_not, Bool.not_eq_true', Bool.not_eq_false', Bool.and_eq_true, Bool.or_eq_true] at h29
      have hrl := @delL_len xs row
      rw [if_pos (List.length_eq_zero_iff.1 (by omega))]
      refine T.regionA (clsL [1, 1, 1, 1, 1, 2]) (by kernel_rfl) ?_
      refine A.takeP (i := 0) rfl rfl rfl rfl (by kernel_rfl) (by kernel_rfl) (by kernel_rfl) rfl qD ?_
      refine L.move rfl rfl ?_
      refine A.took ?_
      refine A.nilCheckP (i := 1) rfl rfl (by kernel_rfl) (by kernel_rfl) (by kernel_rfl) rfl qD rfl ?_
      refine A.takeP (i := 2) rfl rfl rfl rfl (by kernel_rfl) (by kernel_rfl) (by kernel_rfl) rfl qD ?_
      first | refine L.field0 rfl fo57_0 rfl ?_ | refine L.field rfl fo57_0 rfl ?_
      refine A.took ?_
      refine A.takeP (i := 3) rfl rfl rfl rfl (by kernel_rfl) (by kernel_rfl) (by kernel_rfl) rfl qD ?_
      refine L.load rfl sc55 rfl qC ?_
      refine A.took ?_
      refine A.takeP (i := 4) rfl rfl rfl rfl (by kernel_rfl) (by kernel_rfl) (by kernel_rfl) rfl qD ?_
      refine L.loadA rfl ag28 rfl qN ?_
      refine A.took ?_
      refine A.branch (is := [5]) (by kernel_rfl) (by decide) (Each.cons rfl ?_ <| Each.nil) 
      refine L.delete (kenc := aK) (venc := rV2) (l := ml) (k := k) Try.underlying55 (keyT_arr Try.underlying28 Try.underlying5 sc5) rfl rfl qP ?_
      refine A.backT rfl qD ?_
      refine A.done (by kernel_rfl) ?_
      refine T.tbShut (t := del (er ml) k) er_del qS ?_
      exact T.retN (by simp) rfl ⟨rfl, rfl, rfl⟩ qD qF
    · try simp only [decide_eq_true_eq, decide_eq_false_iff_not, Bool.not_eq_true', Bool.not_eq_false', Bool.and_eq_true, Bool.or_eq_true] at h29
      rw [if_neg (fun e => by rw [e] at h29; exact h29 rfl)]
      refine T.skip ?_
      refine T.rowPut (t := put (er ml) k (delL row xs)) (delL row xs) rfl hl qS ?_
      exact T.retN (by simp) rfl ⟨rfl, rfl, rfl⟩ qD qF
theorem drop_spec {b tm : Nat} {t : Tb} {k : ID32} {a : Option Addr} {len cap : Nat} {xs : List Int} (h1 : t.length ≤ 1000000) (h2 : ∀ row, look t k = some row → row.length ≤ 1000000) (hb : len ≤ 1000000) : Spec Try.prog 11 [.pointer (some ⟨b, 0, none⟩), .agg (k.1.map Y).toArray, .slice a len cap] [cl b 57 [.map (some tm)], rsl 1 a len cap (xs.map e3)] [tbA tm t] (fun v D' M' => v = .tuple #[] ∧ D' = [] ∧ M' = [tbA tm (dropT t k xs)]) :=
  Spec.tb (IsFn.of Try.func11 rfl (by decide)) fun ml hm => by
    subst hm
    rcases hl : look ml k with _ | ⟨rb, row⟩
    · exact dropN_spec hl (by rw [er_len] at h1; exact h1) hb
    · exact dropS_spec hl (h2 row (by rw [look_er, hl]; rfl)) hb
end Cv
