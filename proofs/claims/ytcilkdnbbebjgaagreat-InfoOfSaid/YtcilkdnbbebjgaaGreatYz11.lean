/-
  The walks: the law on infos made.
-/
import Derived.Test.YtcilkdnbbebjgaaGreatYg11
import Derived.Test.YtcilkdnbbebjgaaGreatXa11
import Derived.Test.YtcilkdnbbebjgaaGreatE05
import Derived.Test.YtcilkdnbbebjgaaGreatF05
import Derived.Test.YtcilkdnbbebjgaaGreatH05
import Derived.Test.YtcilkdnbbebjgaaGreatProg
import Derived.KernelRfl
set_option linter.unusedVariables false
set_option linter.unusedSimpArgs false
set_option linter.unusedSectionVars false
set_option maxRecDepth 10000
namespace Cv
open Go Go.Proofs
theorem sz58 : Sz Tryz.prog 58 3 := fun w => by kernel_rfl
theorem fo58_2 : Fo Tryz.prog 58 2 2 := fun a w => by kernel_rfl
theorem fo58_1 : Fo Tryz.prog 58 1 1 := fun a w => by kernel_rfl
set_option maxHeartbeats 400000 in
theorem rof11_spec {Y : Tr} {ta : Option Addr} {tl tc : Nat} {a : Option Addr} {n c : Nat} {xs : List ID32} (hsm : TAll Sm Y ∧ Y.t.length ≤ 20000) (htl : tl ≤ 1000000) (hn : n ≤ 60000) : Spec Tryz.prog 11 [.slice ta tl tc, .slice a n c] [rsl 7 ta tl tc ((toldT Y [] 1 true true).map nrow), rsl 1 a n c ((xs.map (·.1)).map ys)] [] (fun v D' M' => ∃ (a1 a2 : Option Addr) (n1 c1 n2 c2 : Nat) (es : List Value) (os : List Ob), v = .tuple #[.agg es.toArray, .slice a2 n2 c2, .int .i64 (ofI Y (sortF xs)).2.2.2] ∧ (OfR Y (sortF xs) es a1 n1 c1 os n2) ∧ D' = [] ∧ M' = [own 1 9 a1 n1 c1 (((ofI Y (sortF xs)).2.1.map (·.1)).map ys), own 3 58 a2 n2 c2 ((os).map obR)]) := by
 refine Spec.intro (n := 43) Tryz.func11 rfl rfl (by decide) (Nat.le_of_ble_eq_true rfl) rfl (fun _ => qA) (fun _ => qA) ?_
 intro σ D M
 refine T.seq (T.region ?_)
 refine L.alloc rfl ze43 (fun b4 => ?_)
 refine L.assign rfl rfl ?_
 refine L.assign rfl rfl ?_
 refine L.nil ?_
 refine T.thenN (T.seq (T.seq (T.region ?_)))
 refine L.move rfl rfl ?_
 refine L.callF rfl (evs.cons rfl <| evs.nil) qD qS (rchk_spec (l := (toldT Y [] 1 true true)) (by omega) (told_sm Y hsm.1 hsm.2)) (by rintro u D1 M1 ⟨rfl, rfl, rfl⟩; exact ⟨rfl, _, qA, qF⟩) ?_
 rw [← chkE_told Y]
 refine L.neI rfl rfl rfl ?_
 refine L.nil ?_
 refine T.thenN ?_
 refine T.cond rfl (fun h14 => ?_) (fun h14 => ?_)
 ·try simp only [dq] at h14
  have hw := wr_bad (x := Y) h14
  refine T.seq (T.region ?_)
  refine L.build rfl bu43 (BP.doneE (out := [S [], Value.int .i64 0, Value.slice none 0 0]) rfl) ?_
  refine L.move rfl rfl ?_
  refine L.callF rfl (evs.cons rfl <| evs.nil) qD qS (rchk_spec (l := (toldT Y [] 1 true true)) (by omega) (told_sm Y hsm.1 hsm.2)) (by rintro u D1 M1 ⟨rfl, rfl, rfl⟩; exact ⟨rfl, _, qA, qF⟩) ?_
  rw [← chkE_told Y]
  refine L.storeA ag43 rfl rfl qL qO qU qW ?_
  refine L.assign rfl rfl ?_
  refine L.assign rfl rfl ?_
  refine L.nil ?_
  refine T.newOwn (sz := 1) (e := 9) ?_
  refine T.eqv qP (show own 1 9 none 0 0 [] = own 1 9 none 0 0 ((([] : List ID32).map (·.1)).map ys) from rfl) ?_
  refine T.newOwn (sz := 3) (e := 58) ?_
  refine T.eqv qP (show own 3 58 none 0 0 [] = own 3 58 none 0 0 ((([] : List Ob)).map obR) from rfl) ?_
  refine T.thenN (T.ret ?_)
  refine T.thenR ?_
  have hO := ofI_wr (x := Y) (l := sortF xs) (by rw [hw.2]; exact h14)
  rw [hO, hw.2]
  exact T.retATT rfl ag43 rfl qN rfl rfl ⟨none, none, 0, 0, 0, 0, [S [], .int .i64 0, .slice none 0 0], [], rfl, ⟨rfl, one_z3, rfl, by rw [hO] <;> rfl, fun q => by rw [hO] at q; exact absurd q (by rw [hw.2]; exact h14)⟩, rfl, rfl⟩ qD qF
 ·try simp only [dq] at h14
  have hce : chkE Y = 0 := Decidable.not_not.1 h14
  have hml : (mark ++ putT Y).length = 4 + (putT Y).length := by rw [List.length_append]; rfl
  refine T.skip (T.thenN (T.seq (T.region ?_)))
  refine L.move rfl rfl ?_
  refine L.callF rfl (evs.cons rfl <| evs.nil) qD qS (text_spec (l := (toldT Y [] 1 true true)) (by omega) (told_props hsm.1 hsm.2 hce)) (by rintro u D1 M1 ⟨rfl, rfl, rfl⟩; exact ⟨rfl, _, qA, qF⟩) ?_
  rw [text_told (chkE_T hce)]
  refine L.assign rfl rfl ?_
  refine L.nil ?_
  refine T.thenN (T.seq (T.seq (T.region ?_)))
  refine L.move rfl rfl ?_
  refine L.lenStr rfl Tryz.underlying9 rfl ?_
  refine L.gtI rfl rfl rfl ?_
  refine L.nil ?_
  refine T.thenN ?_
  refine T.cond rfl (fun h22 => ?_) (fun h22 => ?_)
  ·try simp only [dq] at h22
   have hw := wr_big (x := Y) hce (by omega)
   refine T.seq (T.region ?_)
   refine L.build rfl bu43 (BP.doneE (out := [S [], Value.int .i64 0, Value.slice none 0 0]) rfl) ?_
   refine L.storeA ag43 rfl rfl qL qO qU qW ?_
   refine L.assign rfl rfl ?_
   refine L.assign rfl rfl ?_
   refine L.nil ?_
   refine T.newOwn (sz := 1) (e := 9) ?_
   refine T.eqv qP (show own 1 9 none 0 0 [] = own 1 9 none 0 0 ((([] : List ID32).map (·.1)).map ys) from rfl) ?_
   refine T.newOwn (sz := 3) (e := 58) ?_
   refine T.eqv qP (show own 3 58 none 0 0 [] = own 3 58 none 0 0 ((([] : List Ob)).map obR) from rfl) ?_
   refine T.thenN (T.ret ?_)
   refine T.thenR ?_
   have hO := ofI_wr (x := Y) (l := sortF xs) (by rw [hw.2]; decide)
   rw [hO, hw.2]
   exact T.retATT rfl ag43 rfl qN rfl rfl ⟨none, none, 0, 0, 0, 0, [S [], .int .i64 0, .slice none 0 0], [], rfl, ⟨rfl, one_z3, rfl, by rw [hO] <;> rfl, fun q => by rw [hO] at q; exact absurd q (by rw [hw.2]; decide)⟩, rfl, rfl⟩ qD qF
  ·try simp only [dq] at h22
   have hw := wr_ok (x := Y) hce (by omega)
   rw [← hw.1]
   have hwl := wrS_len Y
   refine T.skip (T.thenN (T.seq (T.region ?_)))
   refine L.move rfl rfl ?_
   refine L.call rfl (evs.cons rfl <| evs.nil) qD qS (rsorted_spec (l := xs) (by omega)) ?_
   rintro _ _ _ ⟨sa, sn, sc, rfl, hsn, rfl, rfl⟩
   refine L.norm qA qA ?_
   refine L.assign rfl rfl ?_
   refine L.nil ?_
   refine T.thenN (T.seq (T.seq (T.region ?_)))
   refine L.move rfl rfl ?_
   refine L.lenSl rfl Tryz.underlying25 rfl ?_
   refine L.gtI rfl rfl rfl ?_
   refine L.nil ?_
   refine T.thenN ?_
   refine T.cond rfl (fun h28 => ?_) (fun h28 => ?_)
   ·try simp only [dq] at h28
    refine T.seq (T.region ?_)
    refine L.build rfl bu43 (BP.doneE (out := [S [], Value.int .i64 0, Value.slice none 0 0]) rfl) ?_
    refine L.storeA ag43 rfl rfl qL qO qU qW ?_
    refine L.assign rfl rfl ?_
    refine L.assign rfl rfl ?_
    refine L.nil ?_
    refine T.newOwn (sz := 1) (e := 9) ?_
    refine T.eqv qP (show own 1 9 none 0 0 [] = own 1 9 none 0 0 ((([] : List ID32).map (·.1)).map ys) from rfl) ?_
    refine T.newOwn (sz := 3) (e := 58) ?_
    refine T.eqv qP (show own 3 58 none 0 0 [] = own 3 58 none 0 0 ((([] : List Ob)).map obR) from rfl) ?_
    refine T.thenN (T.ret ?_)
    refine T.thenR ?_
    have hO := ofI_8 (x := Y) (l := sortF xs) hw.2 (by omega)
    rw [hO]
    exact T.retATT rfl ag43 rfl qN rfl rfl ⟨none, none, 0, 0, 0, 0, [S [], .int .i64 0, .slice none 0 0], [], rfl, ⟨rfl, one_z3, rfl, by rw [hO] <;> rfl, fun q => by rw [hO] at q; exact absurd q (by decide)⟩, rfl, rfl⟩ qD qF
   ·try simp only [dq] at h28
    refine T.skip (T.thenN (T.seq (T.region ?_)))
    refine L.call rfl (evs.cons rfl <| evs.nil) qD qS (rtable_spec (seed := seedS) (by decide)) ?_
    rintro _ _ _ ⟨ga, gc, rfl, rfl, rfl⟩
    refine L.norm qA qA ?_
    refine L.ownRsl (rows := (gearT seedS).map ur) qP ?_
    refine L.move rfl rfl ?_
    refine L.call rfl (evs.cons rfl <| evs.cons rfl <| evs.nil) qD qS (rcut_spec (tt := gearT seedS) (s := wrS Y) gearT_len (by omega)) ?_
    rintro _ _ _ ⟨ka, kn, kc, rfl, hkn, rfl, rfl⟩
    refine L.norm qA qA ?_
    have hkl := chnF_len (T := gearT seedS) (s := wrS Y)
    refine L.ownRsl (rows := (chnF (gearT seedS) (wrS Y)).map ys) qP ?_
    refine L.call rfl (evs.cons rfl <| evs.nil) qD qS (rbuild_spec (cs := chnF (gearT seedS) (wrS Y)) (by omega)) ?_
    rintro _ _ _ ⟨ba, bn, bc, es, bos, rfl, hbr, hbn, rfl, rfl⟩
    refine L.norm qA qA ?_
    have hbe : bldM (chnF (gearT seedS) (wrS Y)) = ofB Y := rfl
    obtain ⟨hb1, hb2, hb3, hb4⟩ := hbr
    rw [hbe] at hb4 ⊢
    refine L.move rfl rfl ?_
    refine L.extract rfl rfl rfl ?_
    refine L.extract rfl rfl rfl ?_
    refine L.extract rfl rfl rfl ?_
    refine L.alloc rfl ze41 (fun b9 => ?_)
    refine L.storeA ag41 rfl rfl qL qO qU qW ?_
    refine L.assign rfl rfl ?_
    refine L.assign rfl rfl ?_
    refine L.nil ?_
    refine T.freeze (A := cl b9 41 es) qP ?_
    refine T.thenN (T.seq (T.region ?_))
    refine L.loadA rfl ag41 rfl (CellsN.ofF qM (AtN.all hb2)) ?_
    refine L.move rfl rfl ?_
    refine L.build rfl bu43 (BP.agg rfl rfl (by first | with_reducible assumption | (simp; done) | (simp only [List.length_map]; with_reducible assumption) | (simp [*]; done) | rfl) (Nat.le_of_ble_eq_true rfl) qR <| BP.one rfl rfl rfl <| BP.doneE (out := []) rfl) ?_
    refine L.known (t := 40) (u := .agg (es ++ [Value.slice sa sn sc]).toArray) rfl (by first | rfl | simp) ?_
    have hes3 : (es ++ [Value.slice sa sn sc]).length = 3 := by rw [List.length_append, hb2]; rfl
    have hes1 : ∀ u ∈ es ++ [Value.slice sa sn sc], u.oneCell' = true := fun u hu => by
     rcases List.mem_append.1 hu with q | q
     ·exact hb3 u q
     ·obtain rfl : u = _ := by simpa using q
      rfl
    refine L.move rfl rfl ?_
    refine L.move rfl rfl ?_
    refine L.storeA ag43 rfl rfl qL qO qU qW ?_
    refine L.assign rfl rfl ?_
    refine L.assign rfl rfl ?_
    refine L.nil ?_
    refine T.thenN (T.ret ?_)
    have h8 : ¬ 8 < (sortF xs).length := by omega
    by_cases hB : (ofB Y).2.2 = 0
    ·have hO := ofI_ok (x := Y) (l := sortF xs) hw.2 h8 hB
     obtain ⟨he1, he2⟩ := hb4 hB
     rw [hO, hB]
     exact T.retATT rfl ag43 rfl qN rfl rfl ⟨sa, ba, sn, sc, bn, bc, es ++ [Value.slice sa sn sc], bos, rfl, ⟨hes3, hes1, hbn, by rw [hO]; exact hsn, fun _ => by rw [hO, he1]; exact ⟨rfl, he2⟩⟩, rfl, rfl⟩ qD qF
    ·have hO := ofI_b (x := Y) (l := sortF xs) hw.2 h8 hB
     rw [hO]
     refine T.newOwn (sz := 1) (e := 9) ?_
     refine T.eqv qP (show own 1 9 none 0 0 [] = own 1 9 none 0 0 ((([] : List ID32).map (·.1)).map ys) from rfl) ?_
     exact T.retATT rfl ag43 rfl qN rfl rfl ⟨none, ba, 0, 0, bn, bc, es ++ [Value.slice sa sn sc], bos, rfl, ⟨hes3, hes1, hbn, by rw [hO] <;> rfl, fun q => by rw [hO] at q; exact absurd q hB⟩, rfl, rfl⟩ qD qF
    skip
set_option maxHeartbeats 400000 in
theorem infoOf_spec {x : Tr} (ta : Option Addr) (tl tc : Nat) {a : Option Addr} {n c : Nat} {l : List (List UInt8)}  : Spec Tryz.prog 3 [.agg (iRow x ta tl tc).toArray, .slice a n c] [rtr x (eRow x ta tl tc), rsl 1 a n c (l.map ys)] [] (fun v D' M' => v = .bool true ∧ D' = [] ∧ M' = []) := by
 refine Spec.intro (n := 111) Tryz.func3 rfl rfl (by decide) (Nat.le_of_ble_eq_true rfl) rfl (fun _ => qA) (fun _ => qA) ?_
 intro σ D M
 have hfc := few_count x 30 1 (by decide)
 have hsm := few_sm x 30 1
 obtain ⟨Y, hY⟩ : ∃ Y, (fewT x 30 1).1 = Y := ⟨_, rfl⟩
 have hfs := Few_spec (x := x) ta tl tc
 rw [hY] at hfs hfc hsm
 obtain ⟨ls, hls⟩ : ∃ z, z = naL l := ⟨_, rfl⟩
 have hl12 := naL_len l
 rw [← hls] at hl12
 refine T.seq (T.region ?_)
 refine L.box rfl rfl rfl (fun b2 => ?_)
 refine L.assign rfl rfl ?_
 refine L.nil ?_
 refine T.thenN (T.seq (T.region ?_))
 refine L.loadA rfl ag24 rfl qN ?_
 refine L.call rfl (evs.cons rfl <| evs.nil) qD qS (hfs) ?_
 rintro _ _ _ ⟨fa, fl, fc, rfl, rfl, rfl⟩
 refine L.norm qA qA ?_
 refine L.storeA ag24 rfl rfl qL qO qU qW ?_
 refine L.nil ?_
 refine T.thenN (T.seq (T.region ?_))
 refine L.move rfl rfl ?_
 refine L.call rfl (evs.cons rfl <| evs.nil) qD qS (names11_spec (l := l)) ?_
 rintro _ _ _ ⟨ua, va, un, uc, vc, rfl, hun, rfl, rfl⟩
 refine L.norm qA qA ?_
 rw [← hls] at hun ⊢
 refine L.ownRsl (rows := ls.map iC) qP ?_
 refine L.ownRsl (rows := (ls.map (·.1)).map ys) qP ?_
 refine L.move rfl rfl ?_
 refine L.extract rfl rfl rfl ?_
 refine L.extract rfl rfl rfl ?_
 refine L.assign rfl rfl ?_
 refine L.assign rfl rfl ?_
 refine L.nil ?_
 refine T.thenN (T.seq (T.region ?_))
 refine L.loadA rfl ag24 rfl qN ?_
 refine L.move rfl rfl ?_
 refine L.call rfl (evs.cons rfl <| evs.cons rfl <| evs.nil) qD qS (iof_spec (x := Y) fa fl fc (xs := ls) (by omega) hsm.1 hsm.2 (by omega)) ?_
 rintro _ _ _ ⟨ia, oa, il, ic, ol, oc, li, rfl, hnf, hil, hol, rfl, rfl⟩
 refine L.norm qA qA ?_
 rw [ofI_or hnf (sortF_names ls)] at hil hol ⊢
 obtain ⟨W, hW⟩ : ∃ z, z = (ofI Y (sortF ls)) := ⟨_, rfl⟩
 rw [← hW] at hil hol ⊢
 have hin := inC_len W.1 ia il ic
 have hp32 := W.1.1.2
 have hl8 := ofI_len (x := Y) (l := sortF ls)
 rw [← hW] at hl8
 refine L.move rfl rfl ?_
 refine L.extract rfl rfl rfl ?_
 refine L.extract rfl rfl rfl ?_
 refine L.extract rfl rfl rfl ?_
 refine L.alloc rfl ze35 (fun b7 => ?_)
 refine L.storeA ag35 rfl rfl qL qO qU qW ?_
 refine L.assign rfl rfl ?_
 refine L.assign rfl rfl ?_
 refine L.nil ?_
 refine T.freeze (A := cl b7 35 (inC W.1 ia il ic)) qP ?_
 refine T.thenN (T.seq (T.region ?_))
 refine L.loadA rfl ag24 rfl qN ?_
 refine L.call rfl (evs.cons rfl <| evs.nil) qD qS (Told_spec (x := Y) _ _ _ (by omega)) ?_
 rintro _ _ _ ⟨ea, el, ec, rfl, htl, rfl, rfl⟩
 refine L.norm qA qA ?_
 refine L.ownRsl qP ?_
 refine L.move rfl rfl ?_
 refine L.call rfl (evs.cons rfl <| evs.cons rfl <| evs.nil) qD qS (rof11_spec (Y := Y) (xs := ls) hsm (by omega) (by omega)) ?_
 rintro _ _ _ ⟨ra, oa2, rn, rc, on2, oc2, es, ros, rfl, hor, rfl, rfl⟩
 refine L.norm qA qA ?_
 obtain ⟨hes3, hes1, hro, hrl, hrv⟩ := hor
 rw [← hW] at hrl hrv ⊢
 refine L.ownRsl (rows := (W.2.1.map (·.1)).map ys) qP ?_
 refine L.ownRsl (rows := ros.map obR) qP ?_
 refine L.move rfl rfl ?_
 refine L.extract rfl rfl rfl ?_
 refine L.extract rfl rfl rfl ?_
 refine L.extract rfl rfl rfl ?_
 refine L.alloc rfl ze43 (fun b10 => ?_)
 refine L.storeA ag43 rfl rfl qL qO qU qW ?_
 refine L.assign rfl rfl ?_
 refine L.assign rfl rfl ?_
 refine L.nil ?_
 refine T.freeze (A := cl b10 43 es) qP ?_
 refine T.thenN (T.seq (T.seq (T.region ?_)))
 refine L.callF rfl (evs.nil) qD qS (awake11_spec) (by rintro u D1 M1 ⟨rfl, rfl, rfl⟩; exact ⟨rfl, _, qA, qF⟩) ?_
 refine L.notB rfl rfl ?_
 refine L.move rfl rfl ?_
 refine L.known (t := 38) rfl (show _ = Value.bool false from rfl) ?_
 refine L.guardT (dj := 38) rfl rfl rfl ?_
 refine L.move rfl rfl ?_
 refine L.guardT (dj := 38) rfl rfl rfl ?_
 refine L.move rfl rfl ?_
 refine L.guardT (dj := 38) rfl rfl rfl ?_
 refine L.neI rfl rfl rfl ?_
 refine L.pickF rfl rfl rfl ?_
 refine L.nil ?_
 refine T.thenN ?_
 refine T.condF rfl (by simp) ?_
 refine T.skip (T.thenN (T.seq (T.seq (T.region ?_))))
 refine L.move rfl rfl ?_
 refine L.neI rfl rfl rfl ?_
 refine L.nil ?_
 refine T.thenN ?_
 refine T.cond rfl (fun h44 => ?_) (fun h44 => ?_)
 ·try simp only [dq] at h44
  have hWe : W = (zP, [], [], W.2.2.2) := by rw [hW]; exact ofI_err (by rw [← hW]; exact h44)
  refine T.seq (T.region ?_)
  refine L.move rfl rfl ?_
  refine L.lenSl rfl Tryz.underlying36 rfl ?_
  refine L.eqI rfl rfl rfl ?_
  refine L.move rfl rfl ?_
  refine L.known (t := 48) rfl (show _ = Value.bool true from congrArg Value.bool (by rw [hWe] at hol; exact decide_eq_true (by simpa using hol.symm))) ?_
  refine L.guardT (dj := 48) rfl rfl rfl ?_
  first | refine L.field0 rfl fo35_0 rfl ?_ | refine L.field rfl fo35_0 rfl ?_
  refine L.guardT (dj := 48) rfl rfl rfl ?_
  first | refine L.field0 rfl fo33_1 rfl ?_ | refine L.field rfl fo33_1 rfl ?_
  refine L.guardT (dj := 48) rfl rfl rfl ?_
  refine L.load rfl sc3 rfl qC ?_
  refine L.guardT (dj := 48) rfl rfl rfl ?_
  refine L.eqI rfl rfl rfl ?_
  refine L.pickT rfl rfl rfl ?_
  refine L.move rfl rfl ?_
  refine L.known (t := 54) rfl (show _ = Value.bool true from congrArg Value.bool (by rw [hWe]; rfl)) ?_
  refine L.guardT (dj := 54) rfl rfl rfl ?_
  first | refine L.field0 rfl fo35_1 rfl ?_ | refine L.field rfl fo35_1 rfl ?_
  refine L.guardT (dj := 54) rfl rfl rfl ?_
  refine L.load rfl sc27 rfl qC ?_
  refine L.guardT (dj := 54) rfl rfl rfl ?_
  refine L.lenSl rfl Tryz.underlying27 rfl ?_
  refine L.guardT (dj := 54) rfl rfl rfl ?_
  refine L.eqI rfl rfl rfl ?_
  refine L.pickT rfl rfl rfl ?_
  refine L.assign rfl rfl ?_
  refine L.nil ?_
  refine T.thenN (T.ret ?_)
  refine T.thenR ?_
  exact T.ret1 rfl rfl ⟨congrArg Value.bool (by rw [hWe] at hil; exact decide_eq_true (by simpa using hil.symm)), rfl, rfl⟩ qD qF
 ·try simp only [dq] at h44
  have hW0 : W.2.2.2 = 0 := by simpa using h44
  obtain ⟨hs0, hs1, -, hs3⟩ := ofI_size (x := Y) (l := sortF ls) (by rw [← hW]; exact hW0)
  rw [← hW] at hs0 hs1 hs3
  obtain ⟨hes, hros⟩ := hrv hW0
  subst hes
  rw [hros] at hro ⊢
  obtain ⟨os, hos⟩ : ∃ z, z = W.2.2.1 := ⟨_, rfl⟩
  rw [← hos] at hro hol hs3 ⊢
  refine T.skip (T.thenN (T.seq (T.seq ?_)))
  refine T.regionA (clsL [1, 2, 1, 2, 1, 1, 1, 1, 1, 1, 1, 1, 1, 1, 2, 2, 1, 2, 1, 1]) qk ?_
  refine A.takeP (i := 0) rfl rfl rfl rfl qk qk qk rfl qD ?_
  refine L.loadA rfl ag35 rfl qN ?_
  refine A.took ?_
  refine A.takeP (i := 2) rfl rfl rfl rfl qk qk qk rfl qD ?_
  refine L.loadA rfl ag43 rfl qN ?_
  refine A.took ?_
  refine A.branch (is := [1]) qk (by decide) (Each.cons rfl ?_ <| Each.nil) 
  refine L.call rfl (evs.cons rfl <| evs.nil) qD qS (told11_spec (l := W.2.1) (p := W.1) (by omega)) ?_
  rintro _ _ _ ⟨ta2, tc2, rfl, rfl, rfl⟩
  refine L.norm qA qA ?_
  refine L.ownRsl (rows := (W.2.1.map (·.1)).map ys) qP ?_
  refine A.backT rfl qD ?_
  refine A.branch (is := [3]) qk (by decide) (Each.cons rfl ?_ <| Each.nil) 
  refine L.callF rfl (evs.cons rfl <| evs.cons rfl <| evs.nil) qD qS (same11_spec (xs := W.2.1.map (·.1)) (us := W.2.1.map (·.1)) (r := W.1.1.1) (t := W.1.1.1) (z := W.1.2) (w := W.1.2) (by omega) (by omega)) (by rintro u D1 M1 ⟨rfl, rfl, rfl⟩; exact ⟨rfl, _, qA, qF⟩) ?_
  refine A.backT rfl qD ?_
  refine A.takeP (i := 4) rfl rfl rfl rfl qk qk qk rfl qD ?_
  refine L.neI rfl rfl rfl ?_
  refine A.took ?_
  refine A.takeP (i := 5) rfl rfl rfl rfl qk qk qk rfl qD ?_
  refine L.move rfl rfl ?_
  refine A.took ?_
  refine A.known (t := 65) rfl (show _ = Value.bool false from congrArg Value.bool (by simp)) ?_
  refine A.takeP (i := 6) rfl rfl rfl rfl qk qk qk rfl qD ?_
  refine L.guardT (dj := 65) rfl rfl rfl ?_
  refine L.move rfl rfl ?_
  refine A.took ?_
  refine A.takeP (i := 7) rfl rfl rfl rfl qk qk qk rfl qD ?_
  refine L.guardT (dj := 65) rfl rfl rfl ?_
  refine L.lenSl rfl Tryz.underlying36 rfl ?_
  refine A.took ?_
  refine A.takeP (i := 8) rfl rfl rfl rfl qk qk qk rfl qD ?_
  refine L.guardT (dj := 65) rfl rfl rfl ?_
  refine L.move rfl rfl ?_
  refine A.took ?_
  refine A.takeP (i := 9) rfl rfl rfl rfl qk qk qk rfl qD ?_
  refine L.guardT (dj := 65) rfl rfl rfl ?_
  refine L.lenSl rfl Tryz.underlying44 rfl ?_
  refine A.took ?_
  refine A.takeP (i := 10) rfl rfl rfl rfl qk qk qk rfl qD ?_
  refine L.guardT (dj := 65) rfl rfl rfl ?_
  refine L.neI rfl rfl rfl ?_
  refine A.took ?_
  refine A.takeP (i := 11) rfl rfl rfl rfl qk qk qk rfl qD ?_
  refine L.pickF rfl rfl rfl ?_
  refine A.took ?_
  refine A.takeP (i := 12) rfl rfl rfl rfl qk qk qk rfl qD ?_
  refine L.move rfl rfl ?_
  refine A.took ?_
  refine A.known (t := 72) rfl (show _ = Value.bool false from congrArg Value.bool (decide_eq_false (by omega))) ?_
  refine A.takeP (i := 13) rfl rfl rfl rfl qk qk qk rfl qD ?_
  refine L.guardT (dj := 72) rfl rfl rfl ?_
  refine L.loadA rfl ag35 rfl qN ?_
  refine A.took ?_
  refine A.takeP (i := 16) rfl rfl rfl rfl qk qk qk rfl qD ?_
  refine L.guardT (dj := 72) rfl rfl rfl ?_
  refine L.loadA rfl ag43 rfl qN ?_
  refine A.took ?_
  refine A.branch (is := [14]) qk (by decide) (Each.cons rfl ?_ <| Each.nil) 
  refine L.guardT (dj := 72) rfl rfl rfl ?_
  refine L.callF rfl (evs.cons rfl <| evs.nil) qD qS (iname_spec (l := W.2.1) (p := W.1) (by omega) (by omega)) (by rintro u D1 M1 ⟨rfl, rfl, rfl⟩; exact ⟨rfl, _, qA, qF⟩) ?_
  refine A.backT rfl qD ?_
  refine A.branch (is := [15]) qk (by decide) (Each.cons rfl ?_ <| Each.nil) 
  refine L.guardT (dj := 72) rfl rfl rfl ?_
  refine L.callF rfl (evs.cons rfl <| evs.nil) qD qS (obytes_spec (l := (inN W.1 W.2.1).1) (inN W.1 W.2.1).2) (by rintro u D1 M1 ⟨rfl, rfl, rfl⟩; exact ⟨rfl, _, qA, qF⟩) ?_
  refine A.backT rfl qD ?_
  refine A.branch (is := [17]) qk (by decide) (Each.cons rfl ?_ <| Each.nil) 
  refine L.guardT (dj := 72) rfl rfl rfl ?_
  refine L.callF rfl (evs.cons rfl <| evs.nil) qD qS (rname11_spec (l := W.2.1) (p := W.1) (by omega) (by omega) (by omega)) (by rintro u D1 M1 ⟨rfl, rfl, rfl⟩; exact ⟨rfl, _, qA, qF⟩) ?_
  refine A.backT rfl qD ?_
  refine A.takeP (i := 18) rfl rfl rfl rfl qk qk qk rfl qD ?_
  refine L.guardT (dj := 72) rfl rfl rfl ?_
  refine L.neS rfl rfl rfl ?_
  refine A.took ?_
  refine A.takeP (i := 19) rfl rfl rfl rfl qk qk qk rfl qD ?_
  refine L.pickF rfl rfl rfl ?_
  refine A.took ?_
  refine A.done qk ?_
  refine T.thenN ?_
  refine T.condF rfl (by simp) ?_
  refine T.skip (T.thenN (T.seq (T.seq (T.region ?_))))
  refine L.move rfl rfl ?_
  refine L.lenSl rfl Tryz.underlying44 rfl ?_
  refine L.move rfl rfl ?_
  refine L.nil ?_
  refine T.thenN (T.block ?_)
  refine T.loop (fun K' D' M' μ => ∃ (i : Nat), (i ≤ on2) ∧ K' = [(82, .int .i64 (i : Int))] ∧ D' = [] ∧ M' = [] ∧ μ = on2 - i) (.cons (t := 8) rfl <| .cons (t := 11) rfl <| .cons (t := 81) rfl <| SubK.nil _) (⟨0, Nat.zero_le _, rfl, rfl, rfl, rfl⟩) (.cons (t := 82) rfl <| SubK.nil _) qD qS ?_
  rintro K1 D1 M1 m1 ⟨i, hi, rfl, rfl, rfl, rfl⟩
  refine T.norm3 qA qA qA ?_
  refine T.seq (T.region ?_)
  refine L.ltI rfl rfl rfl ?_
  refine L.nil ?_
  refine T.thenN (T.seq ?_)
  refine T.cond rfl (fun h83 => ?_) (fun h83 => ?_)
  ·try simp only [dq] at h83
   refine T.skip (T.thenN (T.seq (T.block (T.seq (T.region ?_)))))
   refine L.move rfl rfl ?_
   refine L.assign rfl rfl ?_
   refine L.nil ?_
   refine T.thenN (T.seq ?_)
   have hgi : os[i]? = some (gd os i) := gd_get (by omega)
   obtain ⟨o, ho_⟩ : ∃ x, x = gd os i := ⟨_, rfl⟩
   rw [← ho_] at hgi
   have hgr : (os.map obC)[i]? = some (obC o) := map_get hgi
   have hgs : (os.map obR)[i]? = some (obR o) := map_get hgi
   have ho34 := obC_len o
   have ho32 := o.2.1.2
   refine T.rslAddr (rows := os.map obC) qM (fun e => by have := congrArg List.length e; rw [List.length_map] at this; simp only [List.length_nil] at this; omega) (fun ob_ oo_ ha => ?_)
   subst ha
   refine T.rslAddr (rows := os.map obR) qM (fun e => by have := congrArg List.length e; rw [List.length_map] at this; simp only [List.length_nil] at this; omega) (fun ob2_ oo2_ ha => ?_)
   subst ha
   refine T.regionQ qk qk ?_
   refine L.move rfl rfl ?_
   refine L.move rfl rfl ?_
   refine L.idxR (i := i) rfl Tryz.underlying36 sz56 rfl rfl qM (by first | rfl | omega | (simp; done)) qI qG ?_
   first | refine L.field0 rfl fo56_2 rfl ?_ | refine L.field rfl fo56_2 rfl ?_
   refine L.load rfl sc9 rfl qC ?_
   refine L.move rfl rfl ?_
   refine L.move rfl rfl ?_
   refine L.idxR (i := i) rfl Tryz.underlying44 sz58 rfl rfl qM (by first | rfl | omega | (simp; done)) qI qG ?_
   first | refine L.field0 rfl fo58_2 rfl ?_ | refine L.field rfl fo58_2 rfl ?_
   refine L.load rfl sc9 rfl qC ?_
   refine L.neS rfl rfl rfl ?_
   refine L.move rfl rfl ?_
   refine L.known (t := 96) rfl (show _ = Value.bool false from congrArg Value.bool (by simp)) ?_
   refine L.guardT (dj := 96) rfl rfl rfl ?_
   refine L.move rfl rfl ?_
   refine L.guardT (dj := 96) rfl rfl rfl ?_
   refine L.move rfl rfl ?_
   refine L.guardT (dj := 96) rfl rfl rfl ?_
   refine L.idxR (i := i) rfl Tryz.underlying36 sz56 rfl rfl qM (by first | rfl | omega | (simp; done)) qI qG ?_
   refine L.guardT (dj := 96) rfl rfl rfl ?_
   first | refine L.field0 rfl fo56_1 rfl ?_ | refine L.field rfl fo56_1 rfl ?_
   refine L.guardT (dj := 96) rfl rfl rfl ?_
   refine L.loadA rfl ag31 rfl qN ?_
   refine L.guardT (dj := 96) rfl rfl rfl ?_
   refine L.callF rfl (evs.cons rfl <| evs.nil) qD qS (obytes_spec (l := o.2.1.1) ho32) (by rintro u D1 M1 ⟨rfl, rfl, rfl⟩; exact ⟨rfl, _, qA, qF⟩) ?_
   refine L.guardT (dj := 96) rfl rfl rfl ?_
   refine L.move rfl rfl ?_
   refine L.guardT (dj := 96) rfl rfl rfl ?_
   refine L.move rfl rfl ?_
   refine L.guardT (dj := 96) rfl rfl rfl ?_
   refine L.idxR (i := i) rfl Tryz.underlying44 sz58 rfl rfl qM (by first | rfl | omega | (simp; done)) qI qG ?_
   refine L.guardT (dj := 96) rfl rfl rfl ?_
   first | refine L.field0 rfl fo58_1 rfl ?_ | refine L.field rfl fo58_1 rfl ?_
   refine L.guardT (dj := 96) rfl rfl rfl ?_
   refine L.load rfl sc9 rfl qC ?_
   refine L.guardT (dj := 96) rfl rfl rfl ?_
   refine L.neS rfl rfl rfl ?_
   refine L.pickF rfl rfl rfl ?_
   refine L.nilQ ?_
   refine T.thenN ?_
   refine T.condF rfl (by simp) ?_
   refine T.skip (T.blkN (T.thenN (T.region ?_)))
   refine L.addN rfl rfl rfl (by omega) ?_
   refine L.move rfl rfl ?_
   refine L.nil ?_
   refine T.thenN ?_
   exact T.back ⟨i + 1, (by omega), rfl, rfl, rfl, rfl⟩ qI (.cons (t := 82) rfl <| SubK.nil _) (.cons (t := 8) rfl <| .cons (t := 11) rfl <| .cons (t := 81) rfl <| SubK.nil _) qD qD qF
  ·try simp only [dq] at h83
   refine T.exit (T.thenX (T.thenX (T.blkX (T.thenN (T.seq (T.region ?_))))))
   refine L.assign rfl rfl ?_
   refine L.nil ?_
   refine T.thenN (T.ret ?_)
   exact T.ret1 rfl rfl ⟨rfl, rfl, rfl⟩ qD qF
end Cv
