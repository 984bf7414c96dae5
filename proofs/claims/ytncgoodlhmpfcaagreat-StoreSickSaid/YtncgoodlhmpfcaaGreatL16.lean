/-
  The walks: what the law does with stores.
-/
import Derived.Test.YtncgoodlhmpfcaaGreatK16
set_option linter.all false
set_option maxHeartbeats 400000
set_option maxRecDepth 10000
namespace Cv
open Go Go.Proofs

theorem sbegin_spec {m : Nat} (hm : 20 ≤ m ∧ m ≤ 400) : Spec Tryz.prog 5 [.int .i64 (m : Int)] [] [] (fun v D' M' => ∃ (k : Dk) (bs br bd bb bp bh ba : Nat), v = .tuple #[.agg (stB k.bd bs (((m : Int) - 2) / 2)).toArray, .bool true] ∧ (k.n = m) ∧ D' = [cl k.bd 51 [.pointer (some ⟨k.bf, 0, none⟩), .slice (some ⟨k.sb, 0, none⟩) k.n k.n, .map (some k.bl)], cl br 128 (rgC bp bh ba)] ∧ M' = [cl bs 66 [.pointer (some ⟨br, 0, none⟩), .pointer (some ⟨bd, 0, none⟩), .bool false], dpA bd bb k none 1 [], mp bp aK ivV [], mp bh aK iK [], mp ba aK iK []]) := by
 refine zv (n := 30) Tryz.func5 ?_
 intro σ D M
 refine O (zC R ze34 (fun b2 => ?_))
 refine V R R (I (O (E R R (L.maxI R R R ?_))))
 refine L.minI R R R ?_
 refine zE (t := 9) (u := .int .i64 ((m : Nat) : Int)) R (congrArg (Value.int .i64) jO) ?_
 refine V R R (I (O (E R R (zp R (ev1 R) qD qS (dnew_spec (m := m) jO) ?_))))
 rintro _ _ _ ⟨k, rfl, hkn, rfl, rfl⟩
 refine zm qA qA ?_
 subst hkn
 refine V R R (I (O (E R R (zp R (ev1 R) qD qS (sopen_spec jO jO) ?_))))
 rintro _ _ _ ⟨bs, br, bd, bb, bp, bh, ba, rfl, rfl, rfl⟩
 refine zm qA qA ?_
 refine E R R (zr R R R (zr R R R (V R R (V R R (I (O (E R R (E R R (E R R (yt R R R jO ?_))))))))))
 refine L.quoN R R R qI ?_
 refine yq R bu31 (BP.skip <| BP.skip <| BP.skip <| BP.skip <| zF R R R <| zQ (out := [Value.int .i64 0]) R) ?_
 refine yq R bu34 (zF R R R <| zF R R R <| yG R R j1 (Nat.le_of_ble_eq_true R) qR <| zQ (out := [Value.slice none 0 0, Value.slice none 0 0]) R) ?_
 refine E R R (yi R R R (E R R (zE (t := 26) R (show _ = Value.bool true from congrArg Value.bool (decide_eq_true R)) ?_)))
 refine zj 26 R R R (E R R (zj 26 R R R (L.neqPtr R Tryz.underlying24 R R ?_)))
 refine ym R R R (zz ag34 R R qL qO qU qW ?_)
 exact V R R (I (zo (yW R ag34 R qN R ⟨k, bs, br, bd, bb, bp, bh, ba, R, R, R, R⟩ qD qF)))
theorem file_spec {t : List UInt8}  : Spec Tryz.prog 7 [S t] [] [] (fun v D' M' => ∃ (a' : Option Addr) (c' : Nat), v = .agg (iRow (flT (t.take 700)) a' 1 c').toArray ∧ D' = [rtr (flT (t.take 700)) (eRow (flT (t.take 700)) a' 1 c')] ∧ M' = []) := by
 refine zv (n := 9) Tryz.func7 ?_
 intro σ D M
 refine O (zC R ze44 (fun b2 => ?_))
 refine I (O (E R R (zH R (ev2 R R) qD qS (cut_spec (n := 700)) jF ?_)))
 refine yq R bu44 (zF R R R <| zF R R R <| zQ (out := [Value.slice none 0 0]) R) ?_
 refine yq R bu99 (zF R R R <| yG R R j1 (Nat.le_of_ble_eq_true R) qR <| zQ (out := []) R) ?_
 refine yl R bs42 jD (yG R R j1 (Nat.le_of_ble_eq_true R) qR <| zQ (out := []) R) (fun b7 => ?_)
 refine yR (len := 1) (sz := 4) (e := 99) (rows := [((.mk [102] 1 (t.take 700) [], none, 0, 0) : ET)].map eT) qP (by rfl) R (by simp) ?_
 refine yF qP ?_
 refine L.fact0 (φ := etsA [((.mk [102] 1 (t.take 700) [], none, 0, 0) : ET)]) (fun z q hq => by simp only [List.mem_singleton] at hq; subst hq; exact rt_leaf) ?_
 refine zp R (ev1 R) qD qS (of_spec (xs := [((.mk [102] 1 (t.take 700) [], none, 0, 0) : ET)]) jD) ?_
 rintro _ _ _ ⟨oa, oc, ys, rfl, hk, hs, hyl, rfl, rfl⟩
 refine zm qA qA ?_
 obtain rfl := of_one hk
 refine zz yC R R qL qO qU qW ?_
 refine I (zo (T.derive (φ := rtr (ofT [((.mk [102] 1 (t.take 700) [], none, 0, 0) : ET)]) (eRow (ofT [((.mk [102] 1 (t.take 700) [], none, 0, 0) : ET)]) oa 1 oc)) (ψ := rtr (flT (t.take 700)) (eRow (flT (t.take 700)) oa 1 oc)) qM (fun z H => H) ?_))
 exact xt R yC R qN ⟨_, _, R, R, R⟩ qD qF
theorem fuarm_spec {bd bb tn : Nat} {k : Dk} {rs : List Rc} {j : Nat} (hj : j ≤ 1) : Spec Tryz.prog 8 [.pointer (some ⟨k.bf, 0, none⟩), .int .i64 (j : Int)] [] [dpA bd bb k none tn rs] (fun v D' M' => v = .tuple #[] ∧ D' = [] ∧ M' = [dpA bd bb k (some j) tn rs]) := by
 refine zv (n := 12) Tryz.func8 ?_
 intro σ D M
 refine T.dpU qP (fun m hu => ?_)
 refine T.bkU qP (fun x hx => ?_)
 obtain ⟨h1, h2, h3, h4, h5, h6, h7⟩ := id hx
 refine T.dkU qP (fun sure lo ar lf hfz hnow hcl => ?_)
 refine zt (E R R (E R R (E R R (L.maxI R R R ?_))))
 refine zE (t := 7) (u := .int .i64 ((j : Nat) : Int)) R (congrArg (Value.int .i64) jO) ?_
 refine zJ R R ?_
 refine zg R fo101_0 R ?_
 refine yj sc4 R R R qU qE ?_
 refine zJ R R ?_
 refine zg R fo101_1 R ?_
 refine yj sc3 R R R qU qE ?_
 refine zu (T.dkF (f := some j) (⟨R, R, by omega⟩) (hnow) (hcl) qS ?_)
 refine T.bkF (cur := x.cur) (pv := x.pv) (e := x.e) (sm := x.sm) (bp := x.bp) (hx) qS ?_
 refine T.dpF (m := m) (hu) qS ?_
 exact yS (by simp) R ⟨R, R, R⟩ qD qF
theorem fucl_spec {bd bb tn : Nat} {k : Dk} {rs : List Rc} {f : Fz}  : Spec Tryz.prog 10 [.pointer (some ⟨k.bf, 0, none⟩)] [] [dpA bd bb k f tn rs] (fun v D' M' => v = .tuple #[] ∧ D' = [] ∧ M' = [dpA bd bb k none tn rs]) := by
 refine zv (n := 5) Tryz.func10 ?_
 intro σ D M
 refine T.dpU qP (fun m hu => ?_)
 refine T.bkU qP (fun x hx => ?_)
 obtain ⟨h1, h2, h3, h4, h5, h6, h7⟩ := id hx
 refine T.dkU qP (fun sure lo ar lf hfz hnow hcl => ?_)
 refine zt (E R R (zJ R R ?_))
 refine zg R fo101_0 R ?_
 refine yj sc4 R R R qU qE ?_
 refine zu (T.dkF (f := none) (R) (hnow) (hcl) qS ?_)
 refine T.bkF (cur := x.cur) (pv := x.pv) (e := x.e) (sm := x.sm) (bp := x.bp) (hx) qS ?_
 refine T.dpF (m := m) (hu) qS ?_
 exact yS (by simp) R ⟨R, R, R⟩ qD qF
end Cv
set_option maxRecDepth 10000
namespace Cv
open Go Go.Proofs
/-! ## the law's stores -/
theorem csts_ap {a b : List Rc} : csts (a ++ b) = csts a + csts b := by unfold csts; rw [List.map_append, List.sum_append]
theorem csts_1 {r : Rc} : csts [r] = cstB r.2.length := by show cstB r.2.length + 0 = _; omega
theorem osR_sk {rs : List Rc} {r : Rc} (h : rcO r = none) : osR (rs ++ [r]) = osR rs := by
  rw [osR_app, osR_nil (ms := [r]) (fun m hm => by rw [List.mem_singleton.1 hm]; exact h), List.append_nil]
theorem AdH.csts {x : Tr} {p : Pt} {os : List Ob} {B : Nat} (h : AdH x p os B) : Cv.csts (putR [] (os ++ [((3, inN p [], inT p []) : Ob)]) ++ [(2, inT p [])]) ≤ B := by
  have a := @put_csts [] (os ++ [((3, inN p [], inT p []) : Ob)]) _ (Nat.le_refl _)
  have b := h.sp
  have c : Cv.csts [] = 0 := rfl
  rw [List.take_length] at a
  rw [csts_ap, csts_1]
  show _ + cstB (inT p []).length ≤ _
  omega
theorem kn3_pk {os : List Ob} {us : List ID32} (hn : us.Nodup) : kn3 (pkO os us) ≤ kn3 os := by
  have h : (pkO os us).Nodup := (List.pairwise_map.1 (pk_nd (os := os) hn)).imp fun hne e => hne (by rw [e])
  unfold kn3
  refine nd_len (h.filter _) fun x hx => ?_
  obtain ⟨h1, h2⟩ := List.mem_filter.1 hx
  exact List.mem_filter.2 ⟨(pk_in h1).1, h2⟩
theorem hO_k3 (w : List UInt8) : kn3 (hO w) ≤ 1 := by
  unfold kn3 hO
  rw [List.filter_cons, if_neg (show ¬ decide ((lo w).1 = 3) = true from of_decide_eq_true rfl), List.filter_cons, if_neg (show ¬ decide ((uob 1 [lf w]).1 = 3) = true from of_decide_eq_true rfl)]
  exact List.length_filter_le _ _
structure HiH (p : Pt) (os : List Ob) (w : List UInt8) : Prop where
  ad : AdH xh p os 8
  lil : Lil (os ++ [((3, inN p [], inT p []) : Ob)])
  rsE : putR [] (os ++ [((3, inN p [], inT p []) : Ob)]) = (os ++ [((3, inN p [], inT p []) : Ob)]).map obRc
  wv : ∀ r, WvR (os ++ [((3, inN p [], inT p []) : Ob)]) [(p, -1)] [] r → r = (w, 0)
  tr : trF p.2 w = (xh, 0)
  wl : w.length ≤ 70
  k3 : kn3 (os ++ [((3, inN p [], inT p []) : Ob)]) ≤ 1
theorem nd_ne {a b c : Ob} (h : ([a, b, c].map (·.2.1)).Nodup) : a.2.1 ≠ b.2.1 := fun e => (List.nodup_cons.1 h).1 (by show a.2.1 ∈ List.map (fun x : Ob => x.2.1) [b, c]; rw [e]; exact List.mem_cons_self ..)
theorem hi_ex : ∃ p os w, HiH p os w :=
  ⟨hp1 hw, [lo hw, uob 1 [lf hw]], hw, h_adh, hO_lil hw_len, hO_rs hw_len h_nd, fun r k => h_wv ⟨hw_len.1, Nat.le_trans hw_len.2 (by decide)⟩ (nd_ne h_nd) k, h_tr, hw_len.2, hO_k3 hw⟩
theorem HiH.rs1 {p : Pt} {os : List Ob} {w : List UInt8} (h : HiH p os w) : osR (putR [] (os ++ [((3, inN p [], inT p []) : Ob)]) ++ [(2, inT p [])]) = os ++ [((3, inN p [], inT p []) : Ob)] := by
  rw [h.rsE]
  exact osR_two h.ad.ok (fun r hr => by obtain rfl := List.mem_singleton.1 hr; rfl)
theorem pk_after {os : List Ob} (h : Lil os) (ho : ∀ o ∈ os, ObOk o) {p : Pt} {qa : Option Addr} {qc : Nat} {rs3 : List Rc} (hp : 1 ≤ p.2 ∧ p.2 ≤ 32768) (k : PkF os (hP p qa qc) [(inN p [], 1)] [] rs3) : (Lil (osR rs3) ∧ kn3 (osR rs3) ≤ kn3 os) ∧ csts rs3 ≤ 10 := by
  obtain ⟨l, us, ws, hs, qs, a, b, rfl⟩ := k.ex
  have e : rcsF (hP p qa qc) ws hs qs = [(2, inT p []), (4, (inN p []).1)] := by show (recL _ _ _ _).map _ = _; rw [hP_tl b]; rfl
  rw [e]
  refine ⟨?_, lil_csts h a (m := [(2, inT p []), (4, (inN p []).1)]) (two_id (inT_le hp.2).1) (by rw [List.length_cons, List.length_cons, List.length_nil]; decide)⟩
  rw [osR_two (fun o q => ho o (pk_in q).1) (fun r hr => by
    simp only [List.mem_cons, List.not_mem_nil, or_false] at hr
    rcases hr with rfl | rfl <;> rfl)]
  exact ⟨h.pk a.len, kn3_pk (asc_nd a.asc)⟩
theorem hl_1 {x : ID32} : look [(x, (1 : Int))] x = some 1 := if_pos rfl
theorem dl_1 {x : ID32} : del [(x, (1 : Int))] x = [] := by rw [del, if_pos rfl]
theorem cmp_h : compT xh xh = 0 := by decide +kernel

set_option maxHeartbeats 1600000 in
theorem awake16_spec   : Spec Tryz.prog 4 [] [] [] (fun v D' M' => v = .bool true ∧ D' = [] ∧ M' = []) := by
 refine zv (n := 110) Tryz.func4 ?_
 intro σ D M
 obtain ⟨p, os, w, hH⟩ := hi_ex
 have hp32 := p.1.2
 have hx2 := (inN p []).2
 have hx3 := yw (inN p [])
 refine O (V R R (I (O (zp R (ev1 R) qD qS (sbegin_spec (m := 100) jD) ?_))))
 rintro _ _ _ ⟨k, bs, br, bd, bb, bp, bh, ba, rfl, hkn, rfl, rfl⟩
 refine zm qA qA ?_
 have hN : hfN k.n = 49 := by rw [hkn]; rfl
 refine E R R (zr R R R (zr R R R (zC R ze34 (fun b1 => ?_))))
 refine zz ag34 R R qL qO qU qW ?_
 refine V R R (I (ze (O (E R R (x7 R R (E R R (zE (t := 20) R (show _ = Value.bool false from congrArg Value.bool (R)) ?_)))))))
 refine zj 20 R R R (zg R xx R ?_)
 refine zj 20 R R R (zf R sc24 R qC ?_)
 refine zj 20 R R R (zH R (ev1 R) qD qS (sfree_spec (f := none) (rs := [])) jF ?_)
 refine zj 20 R R R (zZ R R R (yg R R R (I (zR R (decide_eq_false (by rw [hN]; exact fun q => q R)) ?_))))
 refine zq (z8 (O (yq R bu44 (zF R R R <| zF R R R <| zQ (out := [Value.slice none 0 0]) R) ?_)))
 refine zC R ze44 (fun b3 => ?_)
 refine zz yC R R qL qO qU qW ?_
 refine I (ze (yM (sz := 32) (e := 38) ?_))
 refine y3 qP (show own 32 38 none 0 0 [] = own 32 38 none 0 0 (([] : List ID32).map iC) from R) ?_
 refine yQ (rows := ([] : List ID32).map iC) qP ?_
 refine T.fact0 (φ := rtr xh (eRow xh none 0 0)) (fun z => rt_leaf) ?_
 refine T.fcsNil ?_
 refine T.derive (φ := fcs []) (ψ := ifs ([] : IvM)) qM (fun z H => H) ?_
 refine zt (zg R xx R ?_)
 refine zf R sc24 R qC ?_
 refine zx R yC R qN ?_
 refine zp R (ev3 R R R) qD qS (add_spec (br := br) (x := xh) (p := p) (os := os) (pl := []) hH.ad.wr hH.ad.of hH.ad.ct hH.ad.sm hH.ad.tl R (fun e pl2 h => (add_pl hH.ad.p1 h).1) hH.ad.ok (Nat.le_trans hH.ad.ln jD) (by have := hH.ad.p1; omega) (inT_le hH.ad.p1.2).2 (by have := hH.ad.sp; omega) (by rw [hN, show csts [] = 0 from R]; have := hH.ad.sp; omega)) ?_
 rintro _ _ _ ⟨pl2, rfl, hadd, rfl, rfl⟩
 refine zm qA qA ?_
 obtain ⟨-, qa, qc, rfl⟩ := add_pl hH.ad.p1 hadd
 have hr1 := hH.rs1
 have hr2 := hH.ad.csts
 obtain ⟨rs, hrs⟩ : ∃ rs, rs = putR [] (os ++ [((3, inN p [], inT p []) : Ob)]) ++ [(2, inT p [])] := ⟨_, rfl⟩
 rw [← hrs] at hr1 hr2 ⊢
 refine E R R (zr R R R (zr R R R (zC R ze38 (fun b4 => ?_))))
 refine zz zI R R qL qO qU qW ?_
 refine V R R (I (O (zg R xx R ?_)))
 refine zf R sc24 R qC ?_
 refine zx R zI R qN ?_
 refine zp R (ev2 R R) qD qS (sread_spec (br := br) (x := (inN p [])) (pl := (hP p qa qc)) (y := xh) (p := p) (os := os) (s := w) hP_look (by rw [hr1]; exact hH.wv) hH.tr hH.ad.wr hH.ad.of hH.ad.ct hH.ad.sm hH.ad.tl hH.ad.p1 (by rw [hr1]; exact hH.lil.shf) (Nat.le_trans hH.wl jD)) ?_
 rintro _ _ _ ⟨ya, y2, yn, yc, yd, rfl, rfl, rfl⟩
 refine zm qA qA ?_
 refine E R R (zr R R R (zr R R R (zr R R R (zC R ze44 (fun b6 => ?_)))))
 refine zz yC R R qL qO qU qW ?_
 refine V R R (V R R (I (ze (O (E R R (zZ R R R (E R R (zE (t := 44) R (show _ = Value.bool false from congrArg Value.bool (decide_eq_false (fun q => q R))) ?_))))))))
 refine zj 44 R R R (E R R (zj 44 R R R (zZ R R R (yg R R R (E R R (zE (t := 48) R (show _ = Value.bool false from congrArg Value.bool (decide_eq_false (fun q => q R))) ?_))))))
 refine zj 48 R R R (zx R yC R qN ?_)
 refine zj 48 R R R (zx R yC R qN ?_)
 refine zj 48 R R R (zH R (ev2 R R) qD qS (same_spec (x := xh) (z := xh) (by have := hH.ad.ct; omega)) jF ?_)
 rw [show decide (compT xh xh = 0) = true from decide_eq_true cmp_h]
 refine zj 48 R R R (x7 R R (yg R R R (E R R (zE (t := 54) R (show _ = Value.bool false from congrArg Value.bool (R)) ?_))))
 refine zj 54 R R R (E R R (zj 54 R R R (yb R yh R (zj 54 R R R (zZ R R R (yg R R R (E R R (zE (t := 59) R (show _ = Value.bool false from congrArg Value.bool (decide_eq_false (fun q => q R))) ?_))))))))
 refine zj 59 R R R (zg R xx R ?_)
 refine zj 59 R R R (zf R sc24 R qC ?_)
 refine zj 59 R R R (zx R zI R qN ?_)
 refine zj 59 R R R (zp R (ev3 R R R) qD qS (hold_spec (br := br) (f := none) (x := (inN p [])) (pl := (hP p qa qc)) (hl := []) (al := []) (by rw [hP_look]; exact fun e => by cases e) (by have := cst_le (n := 32) jD; omega) jO) ?_)
 rintro _ _ _ ⟨e9, f9, rs9, hl9, sk9, rfl, hnt, rfl, rfl⟩
 refine zm qA qA ?_
 obtain ⟨rfl, rfl, rfl, rfl, rfl⟩ := hnt.ok rfl
 have hr3 : osR (rs ++ [(4, (inN p []).1)]) = (os ++ [((3, inN p [], inT p []) : Ob)]) := by rw [osR_sk rfl]; exact hr1
 obtain ⟨rs4, hrs4⟩ : ∃ z, z = rs ++ [(4, (inN p []).1)] := ⟨_, rfl⟩
 rw [← hrs4] at hr3 ⊢
 have hl4 := hH.lil
 refine zj 59 R R R (zZ R R R (yg R R R (I (zR R (decide_eq_false (fun q => q R)) ?_))))
 refine zq (z8 (ze (y3 qP (show mp bh aK iK (put [] (inN p []) 1) = mp bh aK iK [((inN p []), (1 : Int))] from R) ?_)))
 have hphk := hP_pk1 (H := 11) (qa := qa) (qc := qc) hl4 hH.ad.p1 jD
 refine zt (zg R xx R ?_)
 refine zf R sc24 R qC ?_
 refine zp R (ev1 R) qD qS (gc_spec (br := br) (xs := []) (rs := rs4) (pl := (hP p qa qc)) (hl := [((inN p []), (1 : Int))]) (al := []) (by rw [hr3]; exact hl4.shf) (by rw [hr3]; have := hl4.1; omega) (by rw [hr3]; have := hH.k3; show 9 * _ + (1 + 0) ≤ 12; omega) jD go_0 (by rw [hr3]; exact hP_pk1 hl4 hH.ad.p1 (by rw [hN]; decide)) (by show 1 ≤ 12; decide) (by show 1 ≤ 12; decide) (by show 0 ≤ 12; decide) hphk.h8 hphk.hd (fun lv us => hP_dd1) jD) ?_
 rintro _ _ _ ⟨b2, p2, h2, a2, rs5, rfl, hpk, rfl, rfl⟩
 refine zm qA qA ?_
 rw [hr3] at hpk
 obtain ⟨⟨hl5, hk5⟩, hr5⟩ := pk_after hl4 hH.ad.ok hH.ad.p1 hpk
 refine L.eqv qP (show mp p2 aK ivV (dls (hP p qa qc) []) = mp p2 aK ivV (hP p qa qc) from R) ?_
 refine L.derive (φ := ifs (dls (hP p qa qc) [])) (ψ := ifs (hP p qa qc)) qM (fun z H => H) ?_
 refine E R R (zr R R R (zr R R R (V R R (V R R (I (O (zg R xx R ?_)))))))
 refine zf R sc24 R qC ?_
 refine zx R zI R qN ?_
 refine zp R (ev3 R R R) qD qS (free_spec (br := b2) (x := (inN p [])) (rs := rs5) (pl := (hP p qa qc)) (hl := [((inN p []), (1 : Int))]) (al := []) (by rw [hl_1]; exact fun e => by cases e) (by have := cst_le (n := 32) jD; omega) jO) ?_
 rintro _ _ _ ⟨rfl, rfl, rfl⟩
 refine zm qA qA ?_
 have hr6 : osR (rs5 ++ [(5, (inN p []).1)]) = osR rs5 := osR_sk rfl
 obtain ⟨rs6, hrs6⟩ : ∃ z, z = rs5 ++ [(5, (inN p []).1)] := ⟨_, rfl⟩
 rw [← hrs6] at hr6 ⊢
 refine V R R (I (ze (y3 qP (show mp h2 aK iK (del [((inN p []), (1 : Int))] (inN p [])) = mp h2 aK iK [] from by rw [dl_1]) ?_)))
 refine zt (zg R xx R ?_)
 refine zf R sc24 R qC ?_
 refine zp R (ev1 R) qD qS (gc_spec (br := b2) (xs := [(inN p [])]) (rs := rs6) (pl := (hP p qa qc)) (hl := []) (al := []) (by rw [hr6]; exact hl5.shf) (by rw [hr6]; have := hl5.1; omega) (by rw [hr6]; have := hH.k3; show 9 * _ + (0 + 0) ≤ 12; omega) jD hP_go (by rw [hr6, hP_del]; exact hP_pk2 hl5 (by rw [hN]; decide)) (by show 1 ≤ 12; decide) (by show 0 ≤ 12; decide) (by show 0 ≤ 12; decide) hphk.h8 hphk.hd (fun lv us => hP_dd2) (by show 1 ≤ 100000; decide)) ?_
 rintro _ _ _ ⟨b3, p3, h3, a3, rs7, rfl, -, rfl, rfl⟩
 refine zm qA qA ?_
 refine L.eqv qP (show mp p3 aK ivV (dls (hP p qa qc) [(inN p [])]) = mp p3 aK ivV [] from by rw [hP_del]) ?_
 refine E R R (zr R R R (zr R R R (V R R (V R R (I (O (E R R (yi R R R (E R R (zE (t := 84) R (show _ = Value.bool true from congrArg Value.bool (decide_eq_true R)) ?_))))))))))
 refine zj 84 R R R (E R R (zj 84 R R R (yi R R R (ym R R R (E R R (zE (t := 88) R (show _ = Value.bool true from congrArg Value.bool (decide_eq_true R)) ?_))))))
 refine zj 88 R R R (E R R (zj 88 R R R (yi R R R (ym R R R (E R R (zE (t := 92) R (show _ = Value.bool true from congrArg Value.bool (decide_eq_true R)) ?_))))))
 refine zj 92 R R R (E R R (zj 92 R R R (yi R R R (ym R R R (E R R (zE (t := 96) R (show _ = Value.bool true from congrArg Value.bool (decide_eq_true R)) ?_))))))
 refine zj 96 R R R (E R R (zj 96 R R R (yi R R R (ym R R R (E R R (zE (t := 100) R (show _ = Value.bool true from congrArg Value.bool (decide_eq_true R)) ?_))))))
 refine zj 100 R R R (zg R xx R ?_)
 refine zj 100 R R R (zf R sc24 R qC ?_)
 refine zj 100 R R R (zJ R R ?_)
 refine zj 100 R R R (zg R xr R ?_)
 refine zj 100 R R R (zf R sc63 R qC ?_)
 refine zj 100 R R R (zp R (ev1 R) qD qS (paths_spec (br := b3) (pl := []) jD) ?_)
 rintro _ _ _ ⟨pa, pn, pc, us, rfl, hpf, hpn, rfl, rfl⟩
 refine zm qA qA ?_
 obtain rfl := keys_0 hpf
 obtain rfl : 0 = pn := hpn
 exact zj 100 R R R (yb R yh R (zj 100 R R R (yi R R R (ym R R R (V R R (I (zo (zy R R ⟨R, R, R⟩ qD qF))))))))
end Cv
set_option maxRecDepth 10000
namespace Cv
open Go Go.Proofs

set_option maxHeartbeats 1600000 in
theorem storeSick_spec {n : Int} {t : List UInt8}  : Spec Tryz.prog 3 [.int .i64 n, S t] [] [] (fun v D' M' => v = .bool true ∧ D' = [] ∧ M' = []) := by
 refine zv (n := 132) Tryz.func3 ?_
 intro σ D M
 obtain ⟨p, os, hA⟩ := fl_ok (t := t.take 700) (by rw [List.length_take]; omega)
 have hp32 := p.1.2
 have hx2 := (inN p []).2
 have hx3 := yw (inN p [])
 obtain ⟨j, hjn, hj⟩ : ∃ j : Nat, ((j : Nat) : Int) = n % 2 ∧ j ≤ 1 := ⟨(n % 2).toNat, by omega, by omega⟩
 have hj1 : (some j : Fz) = some 0 ∨ (some j : Fz) = some 1 := (Nat.le_one_iff_eq_zero_or_eq_one.1 hj).elim (fun q => .inl (by rw [q])) (fun q => .inr (by rw [q]))
 refine O (V R R (I (ze (O (zH R (xu) qD qS (awake16_spec) jF ?_)))))
 refine x7 R R (I (zR R R ?_))
 refine zq (z8 (O (zp R (ev1 R) qD qS (sbegin_spec (m := 200) jD) ?_)))
 rintro _ _ _ ⟨k, bs, br, bd, bb, bp, bh, ba, rfl, hkn, rfl, rfl⟩
 refine zm qA qA ?_
 have hN : hfN k.n = 99 := by rw [hkn]; rfl
 refine E R R (zr R R R (zr R R R (zC R ze34 (fun b5 => ?_))))
 refine zz ag34 R R qL qO qU qW ?_
 refine V R R (zu (zO (A := cl b5 34 (stB k.bd bs ((((200 : Nat) : Int) - 2) / 2))) qP ?_))
 refine z8 (ze (O (E R R (x7 R R (I (zR R R ?_))))))
 refine zq (z8 (ze (yx (fun K' D' M' => ∃ (b7 qc : Nat) (qa : Option Addr) (rs : List Rc), (csts rs ≤ 81) ∧ K' = [(7, .pointer (some ⟨b7, 0, none⟩)), (8, .int .i64 0)] ∧ D' = [cl b7 38 (iC (inN p []))] ∧ M' = [cl bs 66 [.pointer (some ⟨br, 0, none⟩), .pointer (some ⟨bd, 0, none⟩), .bool false], dpA bd bb k none 1 rs, mp bp aK ivV (hP p qa qc), mp bh aK iK [], mp ba aK iK []]) (M0 := [cl bs 66 [.pointer (some ⟨br, 0, none⟩), .pointer (some ⟨bd, 0, none⟩), .bool false], dpA bd bb k none 1 [], mp bp aK ivV [], mp bh aK iK [], mp ba aK iK []]) (.c 0 R <| .c 5 R <| zd _) qS ?_ ?_)))
 ·refine yM (sz := 32) (e := 38) ?_
  refine y3 qP (show own 32 38 none 0 0 [] = own 32 38 none 0 0 (([] : List ID32).map iC) from R) ?_
  refine yQ (rows := ([] : List ID32).map iC) qP ?_
  refine T.fcsNil ?_
  refine T.derive (φ := fcs []) (ψ := ifs ([] : IvM)) qM (fun z H => H) ?_
  refine y7 (clsL [1, 2, 1, 2, 2, 1, 1, 1, 2, 2, 1]) qk ?_
  refine z9 0 R R (zg R xx R ?_)
  refine z7 (z9 2 R R (E R R (z7 (yA (is := [1, 3, 8]) qk jD (zU R ?_ <| zU R ?_ <| zU R ?_ <| yB) ))))
  ·refine zf R sc24 R qC ?_
   refine zh R qD ?_
   refine yA (is := [3, 8]) qk jD (zU R ?_ <| zU R ?_ <| yB) 
   ·refine zp R (ev1 R) qD qS (file_spec (t := t)) ?_
    rintro _ _ _ ⟨fa, fc, rfl, rfl, rfl⟩
    refine zm qA qA ?_
    refine zh R qD ?_
    refine yA (is := [4, 8]) qk jD (zU R ?_ <| zU R ?_ <| yB) 
    ·refine zp R (ev3 R R R) qD qS (add_spec (br := br) (x := (flT (t.take 700))) (p := p) (os := os) (pl := []) hA.wr hA.of hA.ct hA.sm hA.tl R (fun e pl2 h => (add_pl hA.p1 h).1) hA.ok (Nat.le_trans hA.ln jD) (by have := hA.p1; omega) (inT_le hA.p1.2).2 (by have := hA.sp; omega) (by rw [hN, show csts [] = 0 from R]; have := hA.sp; omega)) ?_
     rintro _ _ _ ⟨pl2, rfl, hadd, rfl, rfl⟩
     refine zm qA qA ?_
     obtain ⟨-, qa, qc, rfl⟩ := add_pl hA.p1 hadd
     have hr2 := hA.csts
     obtain ⟨rs, hrs⟩ : ∃ rs, rs = putR [] (os ++ [((3, inN p [], inT p []) : Ob)]) ++ [(2, inT p [])] := ⟨_, rfl⟩
     rw [← hrs] at hr2 ⊢
     refine zh R qD ?_
     refine z9 5 R R (E R R (z7 (z9 6 R R (zr R R R (z7 (z9 7 R R (zr R R R (z7 (zi 8 R (zC R ze38 (fun b7 => ?_)))))))))))
     refine zh R qD ?_
     refine zi 9 R (zz zI R R qL qO qU qW ?_)
     refine zh R qD ?_
     refine z9 10 R R (V R R (z7 (zN qk ?_)))
     refine zO (A := cl b7 38 (iC (inN p []))) qP ?_
     exact z8 (zK ⟨_, qc, qa, rs, hr2, R, R, R⟩ (.c 7 R <| .c 8 R <| zd _) (.c 0 R <| .c 5 R <| zd _) qD qD qF)
    refine zC R ze38 (fun b7 => ?_)
    refine zh R qD ?_
    refine zi 4 R (zp R (ev3 R R R) qD qS (add_spec (br := br) (x := (flT (t.take 700))) (p := p) (os := os) (pl := []) hA.wr hA.of hA.ct hA.sm hA.tl R (fun e pl2 h => (add_pl hA.p1 h).1) hA.ok (Nat.le_trans hA.ln jD) (by have := hA.p1; omega) (inT_le hA.p1.2).2 (by have := hA.sp; omega) (by rw [hN, show csts [] = 0 from R]; have := hA.sp; omega)) ?_)
    rintro _ _ _ ⟨pl2, rfl, hadd, rfl, rfl⟩
    refine zm qA qA ?_
    obtain ⟨-, qa, qc, rfl⟩ := add_pl hA.p1 hadd
    have hr2 := hA.csts
    obtain ⟨rs, hrs⟩ : ∃ rs, rs = putR [] (os ++ [((3, inN p [], inT p []) : Ob)]) ++ [(2, inT p [])] := ⟨_, rfl⟩
    rw [← hrs] at hr2 ⊢
    refine zh R qD ?_
    refine z9 5 R R (E R R (z7 (z9 6 R R (zr R R R (z7 (z9 7 R R (zr R R R (z7 (zi 9 R (zz zI R R qL qO qU qW ?_))))))))))
    refine zh R qD ?_
    refine z9 10 R R (V R R (z7 (zN qk ?_)))
    refine zO (A := cl b7 38 (iC (inN p []))) qP ?_
    exact z8 (zK ⟨_, qc, qa, rs, hr2, R, R, R⟩ (.c 7 R <| .c 8 R <| zd _) (.c 0 R <| .c 5 R <| zd _) qD qD qF)
   refine zC R ze38 (fun b7 => ?_)
   refine zh R qD ?_
   refine zi 3 R (zp R (ev1 R) qD qS (file_spec (t := t)) ?_)
   rintro _ _ _ ⟨fa, fc, rfl, rfl, rfl⟩
   refine zm qA qA ?_
   refine zh R qD ?_
   refine zi 4 R (zp R (ev3 R R R) qD qS (add_spec (br := br) (x := (flT (t.take 700))) (p := p) (os := os) (pl := []) hA.wr hA.of hA.ct hA.sm hA.tl R (fun e pl2 h => (add_pl hA.p1 h).1) hA.ok (Nat.le_trans hA.ln jD) (by have := hA.p1; omega) (inT_le hA.p1.2).2 (by have := hA.sp; omega) (by rw [hN, show csts [] = 0 from R]; have := hA.sp; omega)) ?_)
   rintro _ _ _ ⟨pl2, rfl, hadd, rfl, rfl⟩
   refine zm qA qA ?_
   obtain ⟨-, qa, qc, rfl⟩ := add_pl hA.p1 hadd
   have hr2 := hA.csts
   obtain ⟨rs, hrs⟩ : ∃ rs, rs = putR [] (os ++ [((3, inN p [], inT p []) : Ob)]) ++ [(2, inT p [])] := ⟨_, rfl⟩
   rw [← hrs] at hr2 ⊢
   refine zh R qD ?_
   refine z9 5 R R (E R R (z7 (z9 6 R R (zr R R R (z7 (z9 7 R R (zr R R R (z7 (zi 9 R (zz zI R R qL qO qU qW ?_))))))))))
   refine zh R qD ?_
   refine z9 10 R R (V R R (z7 (zN qk ?_)))
   refine zO (A := cl b7 38 (iC (inN p []))) qP ?_
   exact z8 (zK ⟨_, qc, qa, rs, hr2, R, R, R⟩ (.c 7 R <| .c 8 R <| zd _) (.c 0 R <| .c 5 R <| zd _) qD qD qF)
  ·refine zp R (ev1 R) qD qS (file_spec (t := t)) ?_
   rintro _ _ _ ⟨fa, fc, rfl, rfl, rfl⟩
   refine zm qA qA ?_
   refine zh R qD ?_
   refine yA (is := [1, 8]) qk jD (zU R ?_ <| zU R ?_ <| yB) 
   ·refine zf R sc24 R qC ?_
    refine zh R qD ?_
    refine yA (is := [4, 8]) qk jD (zU R ?_ <| zU R ?_ <| yB) 
    ·refine zp R (ev3 R R R) qD qS (add_spec (br := br) (x := (flT (t.take 700))) (p := p) (os := os) (pl := []) hA.wr hA.of hA.ct hA.sm hA.tl R (fun e pl2 h => (add_pl hA.p1 h).1) hA.ok (Nat.le_trans hA.ln jD) (by have := hA.p1; omega) (inT_le hA.p1.2).2 (by have := hA.sp; omega) (by rw [hN, show csts [] = 0 from R]; have := hA.sp; omega)) ?_
     rintro _ _ _ ⟨pl2, rfl, hadd, rfl, rfl⟩
     refine zm qA qA ?_
     obtain ⟨-, qa, qc, rfl⟩ := add_pl hA.p1 hadd
     have hr2 := hA.csts
     obtain ⟨rs, hrs⟩ : ∃ rs, rs = putR [] (os ++ [((3, inN p [], inT p []) : Ob)]) ++ [(2, inT p [])] := ⟨_, rfl⟩
     rw [← hrs] at hr2 ⊢
     refine zh R qD ?_
     refine z9 5 R R (E R R (z7 (z9 6 R R (zr R R R (z7 (z9 7 R R (zr R R R (z7 (zi 8 R (zC R ze38 (fun b7 => ?_)))))))))))
     refine zh R qD ?_
     refine zi 9 R (zz zI R R qL qO qU qW ?_)
     refine zh R qD ?_
     refine z9 10 R R (V R R (z7 (zN qk ?_)))
     refine zO (A := cl b7 38 (iC (inN p []))) qP ?_
     exact z8 (zK ⟨_, qc, qa, rs, hr2, R, R, R⟩ (.c 7 R <| .c 8 R <| zd _) (.c 0 R <| .c 5 R <| zd _) qD qD qF)
    refine zC R ze38 (fun b7 => ?_)
    refine zh R qD ?_
    refine zi 4 R (zp R (ev3 R R R) qD qS (add_spec (br := br) (x := (flT (t.take 700))) (p := p) (os := os) (pl := []) hA.wr hA.of hA.ct hA.sm hA.tl R (fun e pl2 h => (add_pl hA.p1 h).1) hA.ok (Nat.le_trans hA.ln jD) (by have := hA.p1; omega) (inT_le hA.p1.2).2 (by have := hA.sp; omega) (by rw [hN, show csts [] = 0 from R]; have := hA.sp; omega)) ?_)
    rintro _ _ _ ⟨pl2, rfl, hadd, rfl, rfl⟩
    refine zm qA qA ?_
    obtain ⟨-, qa, qc, rfl⟩ := add_pl hA.p1 hadd
    have hr2 := hA.csts
    obtain ⟨rs, hrs⟩ : ∃ rs, rs = putR [] (os ++ [((3, inN p [], inT p []) : Ob)]) ++ [(2, inT p [])] := ⟨_, rfl⟩
    rw [← hrs] at hr2 ⊢
    refine zh R qD ?_
    refine z9 5 R R (E R R (z7 (z9 6 R R (zr R R R (z7 (z9 7 R R (zr R R R (z7 (zi 9 R (zz zI R R qL qO qU qW ?_))))))))))
    refine zh R qD ?_
    refine z9 10 R R (V R R (z7 (zN qk ?_)))
    refine zO (A := cl b7 38 (iC (inN p []))) qP ?_
    exact z8 (zK ⟨_, qc, qa, rs, hr2, R, R, R⟩ (.c 7 R <| .c 8 R <| zd _) (.c 0 R <| .c 5 R <| zd _) qD qD qF)
   refine zC R ze38 (fun b7 => ?_)
   refine zh R qD ?_
   refine zi 1 R (zf R sc24 R qC ?_)
   refine zh R qD ?_
   refine zi 4 R (zp R (ev3 R R R) qD qS (add_spec (br := br) (x := (flT (t.take 700))) (p := p) (os := os) (pl := []) hA.wr hA.of hA.ct hA.sm hA.tl R (fun e pl2 h => (add_pl hA.p1 h).1) hA.ok (Nat.le_trans hA.ln jD) (by have := hA.p1; omega) (inT_le hA.p1.2).2 (by have := hA.sp; omega) (by rw [hN, show csts [] = 0 from R]; have := hA.sp; omega)) ?_)
   rintro _ _ _ ⟨pl2, rfl, hadd, rfl, rfl⟩
   refine zm qA qA ?_
   obtain ⟨-, qa, qc, rfl⟩ := add_pl hA.p1 hadd
   have hr2 := hA.csts
   obtain ⟨rs, hrs⟩ : ∃ rs, rs = putR [] (os ++ [((3, inN p [], inT p []) : Ob)]) ++ [(2, inT p [])] := ⟨_, rfl⟩
   rw [← hrs] at hr2 ⊢
   refine zh R qD ?_
   refine z9 5 R R (E R R (z7 (z9 6 R R (zr R R R (z7 (z9 7 R R (zr R R R (z7 (zi 9 R (zz zI R R qL qO qU qW ?_))))))))))
   refine zh R qD ?_
   refine z9 10 R R (V R R (z7 (zN qk ?_)))
   refine zO (A := cl b7 38 (iC (inN p []))) qP ?_
   exact z8 (zK ⟨_, qc, qa, rs, hr2, R, R, R⟩ (.c 7 R <| .c 8 R <| zd _) (.c 0 R <| .c 5 R <| zd _) qD qD qF)
  refine zC R ze38 (fun b7 => ?_)
  refine zh R qD ?_
  refine yA (is := [1, 3]) qk jD (zU R ?_ <| zU R ?_ <| yB) 
  ·refine zf R sc24 R qC ?_
   refine zh R qD ?_
   refine zi 3 R (zp R (ev1 R) qD qS (file_spec (t := t)) ?_)
   rintro _ _ _ ⟨fa, fc, rfl, rfl, rfl⟩
   refine zm qA qA ?_
   refine zh R qD ?_
   refine zi 4 R (zp R (ev3 R R R) qD qS (add_spec (br := br) (x := (flT (t.take 700))) (p := p) (os := os) (pl := []) hA.wr hA.of hA.ct hA.sm hA.tl R (fun e pl2 h => (add_pl hA.p1 h).1) hA.ok (Nat.le_trans hA.ln jD) (by have := hA.p1; omega) (inT_le hA.p1.2).2 (by have := hA.sp; omega) (by rw [hN, show csts [] = 0 from R]; have := hA.sp; omega)) ?_)
   rintro _ _ _ ⟨pl2, rfl, hadd, rfl, rfl⟩
   refine zm qA qA ?_
   obtain ⟨-, qa, qc, rfl⟩ := add_pl hA.p1 hadd
   have hr2 := hA.csts
   obtain ⟨rs, hrs⟩ : ∃ rs, rs = putR [] (os ++ [((3, inN p [], inT p []) : Ob)]) ++ [(2, inT p [])] := ⟨_, rfl⟩
   rw [← hrs] at hr2 ⊢
   refine zh R qD ?_
   refine z9 5 R R (E R R (z7 (z9 6 R R (zr R R R (z7 (z9 7 R R (zr R R R (z7 (zi 9 R (zz zI R R qL qO qU qW ?_))))))))))
   refine zh R qD ?_
   refine z9 10 R R (V R R (z7 (zN qk ?_)))
   refine zO (A := cl b7 38 (iC (inN p []))) qP ?_
   exact z8 (zK ⟨_, qc, qa, rs, hr2, R, R, R⟩ (.c 7 R <| .c 8 R <| zd _) (.c 0 R <| .c 5 R <| zd _) qD qD qF)
  refine zp R (ev1 R) qD qS (file_spec (t := t)) ?_
  rintro _ _ _ ⟨fa, fc, rfl, rfl, rfl⟩
  refine zm qA qA ?_
  refine zh R qD ?_
  refine zi 1 R (zf R sc24 R qC ?_)
  refine zh R qD ?_
  refine zi 4 R (zp R (ev3 R R R) qD qS (add_spec (br := br) (x := (flT (t.take 700))) (p := p) (os := os) (pl := []) hA.wr hA.of hA.ct hA.sm hA.tl R (fun e pl2 h => (add_pl hA.p1 h).1) hA.ok (Nat.le_trans hA.ln jD) (by have := hA.p1; omega) (inT_le hA.p1.2).2 (by have := hA.sp; omega) (by rw [hN, show csts [] = 0 from R]; have := hA.sp; omega)) ?_)
  rintro _ _ _ ⟨pl2, rfl, hadd, rfl, rfl⟩
  refine zm qA qA ?_
  obtain ⟨-, qa, qc, rfl⟩ := add_pl hA.p1 hadd
  have hr2 := hA.csts
  obtain ⟨rs, hrs⟩ : ∃ rs, rs = putR [] (os ++ [((3, inN p [], inT p []) : Ob)]) ++ [(2, inT p [])] := ⟨_, rfl⟩
  rw [← hrs] at hr2 ⊢
  refine zh R qD ?_
  refine z9 5 R R (E R R (z7 (z9 6 R R (zr R R R (z7 (z9 7 R R (zr R R R (z7 (zi 9 R (zz zI R R qL qO qU qW ?_))))))))))
  refine zh R qD ?_
  refine z9 10 R R (V R R (z7 (zN qk ?_)))
  refine zO (A := cl b7 38 (iC (inN p []))) qP ?_
  exact z8 (zK ⟨_, qc, qa, rs, hr2, R, R, R⟩ (.c 7 R <| .c 8 R <| zd _) (.c 0 R <| .c 5 R <| zd _) qD qD qF)
 rintro _ _ _ ⟨b7, qc, qa, rs, hr2, rfl, rfl, rfl⟩
 refine zM qA qA qA ?_
 refine z8 (O (zg R fo34_0 R ?_))
 refine zf R sc23 R qC ?_
 refine zJ R R ?_
 refine zg R fo51_0 R ?_
 refine zf R sc47 R qC ?_
 refine E R R (L.andM R R R (k := 1) jD jD ?_)
 refine zE (t := 40) (u := .int .i64 ((j : Nat) : Int)) R (congrArg (Value.int .i64) jO) ?_
 refine zp R (ev2 R R) qD qS (fuarm_spec (j := j) (rs := rs) hj) ?_
 rintro _ _ _ ⟨rfl, rfl, rfl⟩
 refine zm qA qA ?_
 refine I (O (zg R xx R ?_))
 refine zf R sc24 R qC ?_
 refine zx R zI R qN ?_
 refine zp R (ev3 R R R) qD qS (hold_spec (br := br) (f := some j) (x := (inN p [])) (pl := (hP p qa qc)) (hl := []) (al := []) (by rw [hP_look]; exact fun e => by cases e) (by have := cst_le (n := 32) jD; omega) jO) ?_
 rintro _ _ _ ⟨e9, f9, rs9, hl9, sk9, rfl, hnt, rfl, rfl⟩
 refine zm qA qA ?_
 obtain ⟨rfl, rfl, rfl⟩ := hnt.io hj1
 refine V R R (I (O (zg R fo34_0 R ?_)))
 refine zf R sc23 R qC ?_
 refine zJ R R ?_
 refine zg R fo51_0 R ?_
 refine zf R sc47 R qC ?_
 refine zp R (ev1 R) qD qS (fucl_spec (f := f9) (rs := rs9)) ?_
 rintro _ _ _ ⟨rfl, rfl, rfl⟩
 refine zm qA qA ?_
 refine I (ze (yx (fun K' D' M' => K' = [(11, .int .i64 13)] ∧ D' = [] ∧ M' = [cl bs 66 [.pointer (some ⟨br, 0, none⟩), .pointer (some ⟨bd, 0, none⟩), .bool true]]) (M0 := [cl bs 66 [.pointer (some ⟨br, 0, none⟩), .pointer (some ⟨bd, 0, none⟩), .bool true]]) (.c 5 R <| .c 7 R <| .c 8 R <| .c 9 R <| zd _) qS ?_ ?_))
 ·have hzi := zID.2
  have hzl := yw zID
  refine y7 (clsL [1, 2, 2, 2, 1, 1, 1, 2, 2, 1]) qk ?_
  refine z9 0 R R (zg R xx R ?_)
  refine z7 (yA (is := [1, 2, 7]) qk jD (zU R ?_ <| zU R ?_ <| zU R ?_ <| yB) )
  ·refine zf R sc24 R qC ?_
   refine zh R qD ?_
   refine yA (is := [2, 7]) qk jD (zU R ?_ <| zU R ?_ <| yB) 
   ·refine zp R (ev1 R) qD qS (file_spec (t := [111, 116, 104, 101, 114])) ?_
    rintro _ _ _ ⟨ga, gc, rfl, rfl, rfl⟩
    refine zm qA qA ?_
    refine zh R qD ?_
    refine yA (is := [3, 7]) qk jD (zU R ?_ <| zU R ?_ <| yB) 
    ·refine zH R (ev3 R R R) qD qS (add_sick (x := flT (([111, 116, 104, 101, 114] : List UInt8).take 700))) jF ?_
     refine zh R qD ?_
     refine z9 4 R R (E R R (z7 (z9 5 R R (zr R R R (z7 (z9 6 R R (zr R R R (z7 (zi 7 R (zC R ze38 (fun b10 => ?_)))))))))))
     refine zh R qD ?_
     refine zi 8 R (zz zI R R qL qO qU qW ?_)
     refine zh R qD ?_
     refine z9 9 R R (V R R (z7 (zN qk ?_)))
     refine zO (A := cl b10 38 (iC zID)) qP ?_
     exact z8 (zK ⟨R, R, R⟩ (.c 11 R <| zd _) (.c 5 R <| .c 7 R <| .c 8 R <| .c 9 R <| zd _) qD qD qF)
    refine zC R ze38 (fun b10 => ?_)
    refine zh R qD ?_
    refine zi 3 R (zH R (ev3 R R R) qD qS (add_sick (x := flT (([111, 116, 104, 101, 114] : List UInt8).take 700))) jF ?_)
    refine zh R qD ?_
    refine z9 4 R R (E R R (z7 (z9 5 R R (zr R R R (z7 (z9 6 R R (zr R R R (z7 (zi 8 R (zz zI R R qL qO qU qW ?_))))))))))
    refine zh R qD ?_
    refine z9 9 R R (V R R (z7 (zN qk ?_)))
    refine zO (A := cl b10 38 (iC zID)) qP ?_
    exact z8 (zK ⟨R, R, R⟩ (.c 11 R <| zd _) (.c 5 R <| .c 7 R <| .c 8 R <| .c 9 R <| zd _) qD qD qF)
   refine zC R ze38 (fun b10 => ?_)
   refine zh R qD ?_
   refine zi 2 R (zp R (ev1 R) qD qS (file_spec (t := [111, 116, 104, 101, 114])) ?_)
   rintro _ _ _ ⟨ga, gc, rfl, rfl, rfl⟩
   refine zm qA qA ?_
   refine zh R qD ?_
   refine zi 3 R (zH R (ev3 R R R) qD qS (add_sick (x := flT (([111, 116, 104, 101, 114] : List UInt8).take 700))) jF ?_)
   refine zh R qD ?_
   refine z9 4 R R (E R R (z7 (z9 5 R R (zr R R R (z7 (z9 6 R R (zr R R R (z7 (zi 8 R (zz zI R R qL qO qU qW ?_))))))))))
   refine zh R qD ?_
   refine z9 9 R R (V R R (z7 (zN qk ?_)))
   refine zO (A := cl b10 38 (iC zID)) qP ?_
   exact z8 (zK ⟨R, R, R⟩ (.c 11 R <| zd _) (.c 5 R <| .c 7 R <| .c 8 R <| .c 9 R <| zd _) qD qD qF)
  ·refine zp R (ev1 R) qD qS (file_spec (t := [111, 116, 104, 101, 114])) ?_
   rintro _ _ _ ⟨ga, gc, rfl, rfl, rfl⟩
   refine zm qA qA ?_
   refine zh R qD ?_
   refine yA (is := [1, 7]) qk jD (zU R ?_ <| zU R ?_ <| yB) 
   ·refine zf R sc24 R qC ?_
    refine zh R qD ?_
    refine yA (is := [3, 7]) qk jD (zU R ?_ <| zU R ?_ <| yB) 
    ·refine zH R (ev3 R R R) qD qS (add_sick (x := flT (([111, 116, 104, 101, 114] : List UInt8).take 700))) jF ?_
     refine zh R qD ?_
     refine z9 4 R R (E R R (z7 (z9 5 R R (zr R R R (z7 (z9 6 R R (zr R R R (z7 (zi 7 R (zC R ze38 (fun b10 => ?_)))))))))))
     refine zh R qD ?_
     refine zi 8 R (zz zI R R qL qO qU qW ?_)
     refine zh R qD ?_
     refine z9 9 R R (V R R (z7 (zN qk ?_)))
     refine zO (A := cl b10 38 (iC zID)) qP ?_
     exact z8 (zK ⟨R, R, R⟩ (.c 11 R <| zd _) (.c 5 R <| .c 7 R <| .c 8 R <| .c 9 R <| zd _) qD qD qF)
    refine zC R ze38 (fun b10 => ?_)
    refine zh R qD ?_
    refine zi 3 R (zH R (ev3 R R R) qD qS (add_sick (x := flT (([111, 116, 104, 101, 114] : List UInt8).take 700))) jF ?_)
    refine zh R qD ?_
    refine z9 4 R R (E R R (z7 (z9 5 R R (zr R R R (z7 (z9 6 R R (zr R R R (z7 (zi 8 R (zz zI R R qL qO qU qW ?_))))))))))
    refine zh R qD ?_
    refine z9 9 R R (V R R (z7 (zN qk ?_)))
    refine zO (A := cl b10 38 (iC zID)) qP ?_
    exact z8 (zK ⟨R, R, R⟩ (.c 11 R <| zd _) (.c 5 R <| .c 7 R <| .c 8 R <| .c 9 R <| zd _) qD qD qF)
   refine zC R ze38 (fun b10 => ?_)
   refine zh R qD ?_
   refine zi 1 R (zf R sc24 R qC ?_)
   refine zh R qD ?_
   refine zi 3 R (zH R (ev3 R R R) qD qS (add_sick (x := flT (([111, 116, 104, 101, 114] : List UInt8).take 700))) jF ?_)
   refine zh R qD ?_
   refine z9 4 R R (E R R (z7 (z9 5 R R (zr R R R (z7 (z9 6 R R (zr R R R (z7 (zi 8 R (zz zI R R qL qO qU qW ?_))))))))))
   refine zh R qD ?_
   refine z9 9 R R (V R R (z7 (zN qk ?_)))
   refine zO (A := cl b10 38 (iC zID)) qP ?_
   exact z8 (zK ⟨R, R, R⟩ (.c 11 R <| zd _) (.c 5 R <| .c 7 R <| .c 8 R <| .c 9 R <| zd _) qD qD qF)
  refine zC R ze38 (fun b10 => ?_)
  refine zh R qD ?_
  refine yA (is := [1, 2]) qk jD (zU R ?_ <| zU R ?_ <| yB) 
  ·refine zf R sc24 R qC ?_
   refine zh R qD ?_
   refine zi 2 R (zp R (ev1 R) qD qS (file_spec (t := [111, 116, 104, 101, 114])) ?_)
   rintro _ _ _ ⟨ga, gc, rfl, rfl, rfl⟩
   refine zm qA qA ?_
   refine zh R qD ?_
   refine zi 3 R (zH R (ev3 R R R) qD qS (add_sick (x := flT (([111, 116, 104, 101, 114] : List UInt8).take 700))) jF ?_)
   refine zh R qD ?_
   refine z9 4 R R (E R R (z7 (z9 5 R R (zr R R R (z7 (z9 6 R R (zr R R R (z7 (zi 8 R (zz zI R R qL qO qU qW ?_))))))))))
   refine zh R qD ?_
   refine z9 9 R R (V R R (z7 (zN qk ?_)))
   refine zO (A := cl b10 38 (iC zID)) qP ?_
   exact z8 (zK ⟨R, R, R⟩ (.c 11 R <| zd _) (.c 5 R <| .c 7 R <| .c 8 R <| .c 9 R <| zd _) qD qD qF)
  refine zp R (ev1 R) qD qS (file_spec (t := [111, 116, 104, 101, 114])) ?_
  rintro _ _ _ ⟨ga, gc, rfl, rfl, rfl⟩
  refine zm qA qA ?_
  refine zh R qD ?_
  refine zi 1 R (zf R sc24 R qC ?_)
  refine zh R qD ?_
  refine zi 3 R (zH R (ev3 R R R) qD qS (add_sick (x := flT (([111, 116, 104, 101, 114] : List UInt8).take 700))) jF ?_)
  refine zh R qD ?_
  refine z9 4 R R (E R R (z7 (z9 5 R R (zr R R R (z7 (z9 6 R R (zr R R R (z7 (zi 8 R (zz zI R R qL qO qU qW ?_))))))))))
  refine zh R qD ?_
  refine z9 9 R R (V R R (z7 (zN qk ?_)))
  refine zO (A := cl b10 38 (iC zID)) qP ?_
  exact z8 (zK ⟨R, R, R⟩ (.c 11 R <| zd _) (.c 5 R <| .c 7 R <| .c 8 R <| .c 9 R <| zd _) qD qD qF)
 rintro _ _ _ ⟨rfl, rfl, rfl⟩
 refine zM qA qA qA ?_
 refine z8 (O (zg R xx R ?_))
 refine zf R sc24 R qC ?_
 refine zH R (ev1 R) qD qS (gc_sick) jF ?_
 refine E R R (zr R R R (zr R R R (V R R (V R R (I (O (zg R xx R ?_)))))))
 refine zf R sc24 R qC ?_
 refine zH R (ev1 R) qD qS (scrub_sick) jF ?_
 refine E R R (zr R R R (zr R R R (V R R (V R R (I (O (zp R (ev1 R) qD qS (dnew_spec (m := 3) jD) ?_)))))))
 rintro _ _ _ ⟨k3, rfl, hk3, rfl, rfl⟩
 refine zm qA qA ?_
 refine zp R (ev1 R) qD qS (sopen3_spec (k := k3) hk3) ?_
 rintro _ _ _ ⟨rfl, rfl, rfl⟩
 refine zm qA qA ?_
 refine E R R (zr R R R (zr R R R (V R R (V R R (I (O (E R R (yi R R R (E R R (zE (t := 78) R (show _ = Value.bool true from congrArg Value.bool (decide_eq_true R)) ?_))))))))))
 refine zj 78 R R R (E R R (zj 78 R R R (yi R R R (ym R R R (E R R (zE (t := 82) R (show _ = Value.bool true from congrArg Value.bool (decide_eq_true R)) ?_))))))
 refine zj 82 R R R (zg R xx R ?_)
 refine zj 82 R R R (zf R sc24 R qC ?_)
 refine zj 82 R R R (zH R (ev1 R) qD qS (sick_spec (sk := true)) jF ?_)
 refine ym R R R (E R R (zE (t := 87) R (show _ = Value.bool true from congrArg Value.bool (R)) ?_))
 refine zj 87 R R R (E R R (zj 87 R R R (yi R R R (ym R R R (E R R (zE (t := 91) R (show _ = Value.bool true from congrArg Value.bool (decide_eq_true R)) ?_))))))
 refine zj 91 R R R (E R R (zj 91 R R R (yi R R R (ym R R R (E R R (zE (t := 95) R (show _ = Value.bool true from congrArg Value.bool (decide_eq_true R)) ?_))))))
 refine zj 95 R R R (E R R (zj 95 R R R (yi R R R (ym R R R (E R R (zE (t := 99) R (show _ = Value.bool true from congrArg Value.bool (decide_eq_true R)) ?_))))))
 refine zj 99 R R R (zg R xx R ?_)
 refine zj 99 R R R (zf R sc24 R qC ?_)
 refine zj 99 R R R (zx R zI R qN ?_)
 refine zj 99 R R R (zH R (ev3 R R R) qD qS (ask_sick (x := (inN p []))) jF ?_)
 refine zj 99 R R R (yi R R R (ym R R R (E R R (zE (t := 106) R (show _ = Value.bool true from congrArg Value.bool (decide_eq_true R)) ?_))))
 refine zj 106 R R R (zg R xx R ?_)
 refine zj 106 R R R (zf R sc24 R qC ?_)
 refine zj 106 R R R (zH R (ev2 R R) qD qS (stage_sick) jF ?_)
 refine zj 106 R R R (yi R R R (ym R R R (E R R (zE (t := 112) R (show _ = Value.bool true from congrArg Value.bool (decide_eq_true R)) ?_))))
 refine zj 112 R R R (zg R xx R ?_)
 refine zj 112 R R R (zf R sc24 R qC ?_)
 refine zj 112 R R R (zH R (ev1 R) qD qS (sync_sick) jF ?_)
 refine zj 112 R R R (yi R R R (ym R R R (E R R (zE (t := 118) R (show _ = Value.bool true from congrArg Value.bool (decide_eq_true R)) ?_))))
 refine zj 118 R R R (zg R xx R ?_)
 refine zj 118 R R R (zf R sc24 R qC ?_)
 refine zj 118 R R R (zJ R R ?_)
 refine zj 118 R R R (zg R xr R ?_)
 refine zj 118 R R R (zf R sc63 R qC ?_)
 refine zj 118 R R R (zp R (ev1 R) qD qS (held_spec (br := br) (hl := []) jD) ?_)
 rintro _ _ _ ⟨pa, pn, pc, us, rfl, hpf, hpn, rfl, rfl⟩
 refine zm qA qA ?_
 obtain rfl := keys_0 hpf
 obtain rfl : 0 = pn := hpn
 refine zj 118 R R R (yb R yh R (zj 118 R R R (yi R R R (ym R R R (E R R (zE (t := 128) R (show _ = Value.bool true from congrArg Value.bool (decide_eq_true R)) ?_))))))
 exact zj 128 R R R (E R R (zj 128 R R R (yi R R R (ym R R R (V R R (I (zo (zy R R ⟨R, R, R⟩ qD qF))))))))
end Cv
