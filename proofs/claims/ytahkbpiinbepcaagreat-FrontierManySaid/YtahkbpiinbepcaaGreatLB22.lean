/-
  The walks: the law on a chain.
-/
import Derived.Test.YtahkbpiinbepcaaGreatLA22
import Derived.Test.YtahkbpiinbepcaaGreatProg
import Derived.KernelRfl
set_option linter.unusedVariables false
set_option linter.unusedSimpArgs false
set_option linter.unusedSectionVars false
set_option maxHeartbeats 400000
set_option maxRecDepth 10000
namespace Cv
open Go Go.Proofs

theorem frmn_law {z : Int} (hzb : -9223372036854775808 ≤ z ∧ z ≤ 9223372036854775807) : Spec Tryz.prog 10 [.int .i64 z] [] [] (fun v D' M' => v = .bool true ∧ D' = [] ∧ M' = []) := by
 refine zI (n := 104) Tryz.func10 ?_
 intro σ D M
 refine z6 (z8 (z9 rfl rfl (z7 (z4 (z6 (z6 (yj (fun K' D' M' => ∃ (w : Bool), (w = true ↔ (z < 1 ∨ 60 < z)) ∧ K' = [(19, .bool w)] ∧ D' = [] ∧ M' = []) (M0 := []) (.cons (t := 0) rfl <| za _) qS ?_ ?_)))))))
 ·skip
  refine z8 (zW rfl (evs.nil) qD qS (awake22_spec) jF ?_)
  refine yZ rfl rfl (z5 rfl rfl (zv (t := 12) rfl (show _ = Value.bool false from congrArg Value.bool (rfl)) ?_))
  refine zf (dj := 12) rfl rfl rfl (z5 rfl rfl (zf (dj := 12) rfl rfl rfl (zQ rfl rfl rfl (y9 rfl rfl rfl (z5 rfl rfl (yK (t := 16) rfl (fun h1 => ?_) (fun h1 => ?_)))))))
  ·try simp only [dq] at h1
   exact zh (dj := 16) (c := true) rfl rfl rfl rfl rfl jD (zh (dj := 16) (c := true) rfl rfl rfl rfl rfl jD (y6 rfl rfl rfl (z7 (z4 (zF ⟨_, (by simp_all <;> omega), rfl, rfl, rfl⟩ (.cons (t := 19) rfl <| za _) (.cons (t := 0) rfl <| za _) qD qD qF)))))
  ·try simp only [dq] at h1
   exact zf (dj := 16) rfl rfl rfl (z5 rfl rfl (zf (dj := 16) rfl rfl rfl (yq rfl rfl rfl (y9 rfl rfl rfl (z7 (z4 (zF ⟨_, (by simp_all <;> omega), rfl, rfl, rfl⟩ (.cons (t := 19) rfl <| za _) (.cons (t := 0) rfl <| za _) qD qD qF)))))))
 rintro _ _ _ ⟨w, hw, rfl, rfl, rfl⟩
 refine zE qA qA qA ?_
 refine z4 (zo rfl (fun h19 => ?_) (fun h19 => ?_))
 ·try simp only [dq] at h19
  refine z6 (z8 (zW rfl (evs.nil) qD qS (awake22_spec) jF ?_))
  exact z9 rfl rfl (z7 (z4 (zj (zx (zA rfl rfl ⟨rfl, rfl, rfl⟩ qD qF)))))
 ·try simp only [dq] at h19
  have hz1 : 1 ≤ z ∧ z ≤ 60 := by
   have : ¬ (z < 1 ∨ 60 < z) := fun e => by have := hw.2 e; rw [h19] at this; cases this
   omega
  obtain ⟨n, rfl⟩ : ∃ n : Nat, z = (n : Int) := ⟨z.toNat, by omega⟩
  refine zm (z4 (z6 (z8 (ye rfl bu26 (zB (out := [Value.slice none 0 0]) rfl) ?_))))
  refine zL rfl ze26 (fun b3 => ?_)
  refine zz ag26 rfl rfl qL qO qU qW ?_
  refine z7 (yw (sz := 34) (e := 45) ?_)
  refine zU qP (show own 34 45 none 0 0 [] = own 34 45 none 0 0 ((mos 0).map obC) from rfl) ?_
  refine z4 (z6 ?_)
  have hc02 := (cn 0).2
  have hc03 := zX (cn 0)
  refine z8 (ye rfl bua38 (zw rfl rfl rfl <| zw rfl rfl rfl <| zB (out := (Value.int .u8 0 :: Value.int .u8 0 :: Value.int .u8 0 :: Value.int .u8 0 :: Value.int .u8 0 :: Value.int .u8 0 :: Value.int .u8 0 :: Value.int .u8 0 :: Value.int .u8 0 :: Value.int .u8 0 :: Value.int .u8 0 :: Value.int .u8 0 :: Value.int .u8 0 :: Value.int .u8 0 :: Value.int .u8 0 :: Value.int .u8 0 :: Value.int .u8 0 :: Value.int .u8 0 :: Value.int .u8 0 :: Value.int .u8 0 :: Value.int .u8 0 :: Value.int .u8 0 :: Value.int .u8 0 :: Value.int .u8 0 :: Value.int .u8 0 :: Value.int .u8 0 :: Value.int .u8 0 :: Value.int .u8 0 :: Value.int .u8 0 :: Value.int .u8 0 :: [])) rfl) ?_)
  refine zv (t := 22) (u := .agg (iC (cn 0)).toArray) rfl (by rw [cn0_v]; rfl) ?_
  refine zL rfl ze38 (fun b4 => ?_)
  refine zz zD rfl rfl qL qO qU qW ?_
  refine z7 ?_
  skip
  refine z4 (z6 (z6 (z8 (z5 rfl rfl (z5 rfl rfl (z7 (z4 (zu (zY (fun K' D' M' μ => ∃ (i sc : Nat) (sa : Option Addr), (i ≤ n) ∧ K' = [(24, .int .i64 (i : Int))] ∧ D' = [] ∧ M' = [cl b3 26 [.slice sa i sc], own 34 45 sa i sc ((mos i).map obC), cl b4 38 (iC (cn i))] ∧ μ = n - i) (.cons (t := 0) rfl <| .cons (t := 3) rfl <| .cons (t := 4) rfl <| .cons (t := 23) rfl <| za _) (⟨0, 0, none, Nat.zero_le _, rfl, rfl, rfl, rfl⟩) (.cons (t := 24) rfl <| za _) qD qS ?_)))))))))
  rintro K1 D1 M1 m1 ⟨i, sc, sa, hi, rfl, rfl, rfl, rfl⟩
  refine zE qA qA qA ?_
  refine z6 (z8 (zQ rfl rfl rfl (z7 (z4 (z6 (zo rfl (fun h25 => ?_) (fun h25 => ?_)))))))
  ·try simp only [dq] at h25
   refine zm (z4 (z6 (zu (z6 (z8 (z5 rfl rfl (z9 rfl rfl (z7 (z4 (z6 ?_))))))))))
   have hci2 := (cn i).2
   have hci3 := zX (cn i)
   have hbi2 := (bId i).2
   have hbi3 := zX (bId i)
   obtain ⟨o, ho⟩ : ∃ o : Ob, o = (3, oI 3 (inT (bId i, 1) [cn i]), inT (bId i, 1) [cn i]) := ⟨_, rfl⟩
   have hom : o = mob i := by rw [ho]; unfold mob; rw [cn_succ]
   have ho33 := obC_len o
   have ho32 := o.2.1.2
   have hmt : (inT (bId i, 1) [cn i]).length ≤ 35184372088832 := Nat.le_trans (inT_len (by show (1 : Int) ≤ _; decide) (by show 1 ≤ 1000000; decide)) (by show 50 + 32 * 1 ≤ 35184372088832; decide)
   refine z8 (z5 rfl rfl (L.convIY rfl yU yE rfl ?_))
   refine ye rfl bua38 (zw rfl rfl rfl <| zB (out := (Value.int .u8 0 :: Value.int .u8 0 :: Value.int .u8 0 :: Value.int .u8 0 :: Value.int .u8 0 :: Value.int .u8 0 :: Value.int .u8 0 :: Value.int .u8 0 :: Value.int .u8 0 :: Value.int .u8 0 :: Value.int .u8 0 :: Value.int .u8 0 :: Value.int .u8 0 :: Value.int .u8 0 :: Value.int .u8 0 :: Value.int .u8 0 :: Value.int .u8 0 :: Value.int .u8 0 :: Value.int .u8 0 :: Value.int .u8 0 :: Value.int .u8 0 :: Value.int .u8 0 :: Value.int .u8 0 :: Value.int .u8 0 :: Value.int .u8 0 :: Value.int .u8 0 :: Value.int .u8 0 :: Value.int .u8 0 :: Value.int .u8 0 :: Value.int .u8 0 :: Value.int .u8 0 :: [])) rfl) ?_
   refine zv (t := 29) (u := .agg (iC (bId i)).toArray) rfl (by rw [bId_v, show ((i : Int) % 256).toNat = i from by omega]; rfl) ?_
   refine ye rfl bu51 (ym rfl rfl (by first | with_reducible assumption | (simp; done) | (simp only [List.length_map]; with_reducible assumption) | (simp [*]; done) | rfl) (Nat.le_of_ble_eq_true rfl) qR <| zw rfl rfl rfl <| zB (out := []) rfl) ?_
   have hpi := ptC_len (bId i, 1)
   refine zv (t := 30) (u := .agg (ptC (bId i, 1)).toArray) rfl (by first | rfl | simp) ?_
   refine zp rfl zD rfl qN ?_
   refine zZ rfl bs30 jD (ym rfl rfl (by first | with_reducible assumption | (simp; done) | (simp only [List.length_map]; with_reducible assumption) | (simp [*]; done) | rfl) (Nat.le_of_ble_eq_true rfl) qR <| zB (out := []) rfl) (fun b32 => ?_)
   refine yI (len := 1) qP (rows := [cn i].map iC) (sz := 32) (by simp) rfl (by simp [hci2]) ?_
   refine yY (rows := [cn i].map iC) qP ?_
   refine ye rfl bu54 (ym rfl rfl (by first | with_reducible assumption | (simp; done) | (simp only [List.length_map]; with_reducible assumption) | (simp [*]; done) | rfl) (Nat.le_of_ble_eq_true rfl) qR <| zw rfl rfl rfl <| zB (out := []) rfl) ?_
   have hii := inC_len (bId i, 1) (some ⟨b32, 0, none⟩) 1 1
   refine zv (t := 33) (u := .agg (inC (bId i, 1) (some ⟨b32, 0, none⟩) 1 1).toArray) rfl (by first | rfl | simp) ?_
   refine zL rfl ze54 (fun b6 => ?_)
   refine zz ag54 rfl rfl qL qO qU qW ?_
   refine z7 (yf (A := cl b6 54 (inC (bId i, 1) (some ⟨b32, 0, none⟩) 1 1)) qP ?_)
   refine z4 (z6 (z8 (zp rfl ag54 rfl qN ?_)))
   refine zW rfl (ev1 rfl) qD qS (itext_spec (l := [cn i]) (p := (bId i, 1)) jD (by show (1 : Int) ≤ _; decide)) jF ?_
   refine zW rfl (ev2 rfl rfl) qD qS (make_spec (k := 3) (tx := inT (bId i, 1) [cn i]) hmt) jF ?_
   rw [show ((3 : Int), oI 3 (inT (bId i, 1) [cn i]), inT (bId i, 1) [cn i]) = o from ho.symm]
   refine zL rfl ze45 (fun b7 => ?_)
   refine zz ag45 rfl rfl qL qO qU qW ?_
   refine z7 (yf (A := cl b7 45 (obC o)) qP ?_)
   refine z4 (z6 (z8 (zg rfl fo26_0 rfl ?_)))
   refine zi rfl sc24 rfl qC ?_
   refine zp rfl ag45 rfl qN ?_
   refine zZ rfl bs24 jD (ym rfl rfl (by first | with_reducible assumption | (simp; done) | (simp only [List.length_map]; with_reducible assumption) | (simp [*]; done) | rfl) (Nat.le_of_ble_eq_true rfl) qR <| zB (out := []) rfl) (fun b40 => ?_)
   refine yz rfl xh el45 rfl rfl qP qM (by rw [List.append_nil]; exact ho33) (fun u hu => by rw [List.append_nil] at hu; exact one_ob u hu) qI qI (fun a41 c41 => ?_)
   refine zg rfl fo26_0 rfl ?_
   refine y8 sc24 rfl rfl rfl qU qE ?_
   refine z7 (z4 (z8 (zg rfl fo45_1 rfl ?_)))
   refine zp rfl zD rfl qN ?_
   refine zz zD rfl rfl qL qO qU qW ?_
   refine z7 (zK (z4 (z8 (zH rfl rfl rfl jO ?_))))
   refine z5 rfl rfl (z7 (z4 (yg _ ((mos (i + 1)).map obC) qP (by rw [mos_s, List.map_append, ← hom, List.append_nil]; rfl) ?_)))
   refine zU qP (show cl b4 38 (iC o.2.1) = cl b4 38 (iC (cn (i + 1))) from by rw [hom, mob_id]) ?_
   exact zR ⟨i + 1, _, _, jO, rfl, rfl, rfl, rfl⟩ qI (.cons (t := 24) rfl <| za _) (.cons (t := 0) rfl <| .cons (t := 3) rfl <| .cons (t := 4) rfl <| .cons (t := 23) rfl <| za _) qD qD qF
  ·try simp only [dq] at h25
   obtain rfl : n = i := by omega
   refine yA (rows := (mos n).map obC) qP ?_
   refine yf (A := cl b3 26 [.slice sa n sc]) qP ?_
   refine yf (A := cl b4 38 (iC (cn n))) qP ?_
   refine zN (zr (zr (zO (z4 (z6 ?_)))))
   have hcn2 := (cn n).2
   have hcn3 := zX (cn n)
   obtain ⟨W, hW⟩ : ∃ y, y = pthF (mos n) noT 70 (cn n) fs0 := ⟨_, rfl⟩
   refine z8 (zp rfl ag26 rfl qN ?_)
   refine L.mkIface rfl Tryz.underlying26 (by intro i q; cases q) rfl ?_
   refine zp rfl zD rfl qN ?_
   refine zC rfl (ev3 rfl rfl rfl) qD qS (of_spec (ft := 47) (cs := []) (d1 := rsl 34 sa n sc ((mos n).map obC)) (d2 := rsl 34 sa n sc ((mos n).map obC)) (os := mos n) (tb := noT) (F := 70) (x := cn n) jO (mos_shf n) mo_ptd (fun y => none22_spec) (mo_pd jO 70 n jO (Nat.le_refl _))) ?_
   rintro _ _ _ ⟨pa, pn, pc, wa, wn, wc, ra, rn, rc, rfl, hp_, hw_, hr_, rfl, rfl⟩
   refine zy qA qA ?_
   rw [← hW] at hp_ hw_ hr_ ⊢
   refine z5 rfl rfl (zV rfl rfl rfl (zV rfl rfl rfl (zL rfl ze78 (fun b8 => ?_))))
   refine zz ag78 rfl rfl qL qO qU qW ?_
   refine z9 rfl rfl (z7 (yf (A := cl b8 78 [.slice pa pn pc, .slice wa wn wc, .slice ra rn rc]) qP ?_))
   refine z4 (z6 (z6 (z8 (z5 rfl rfl (zH rfl rfl rfl jO ?_)))))
   refine yq rfl rfl rfl (z7 (z4 (zo rfl (fun h55 => ?_) (fun h55 => ?_))))
   ·try simp only [dq] at h55
    have hb : W.2 = false := by rw [hW]; exact mo_B jO n 70 [] jO (Nat.le_refl _) jO (fun j _ q => by cases q)
    rw [frO_f hb] at hp_ hw_
    rw [frE_f hb]
    have hp0 : pn = 0 := hp_.symm
    have hw0 : wn = 0 := hw_.symm
    refine z6 (z8 (z5 rfl rfl (yn rfl rfl rfl (z5 rfl rfl (zv (t := 58) rfl (show _ = Value.bool true from congrArg Value.bool (decide_eq_true rfl)) ?_)))))
    refine zf (dj := 58) rfl rfl rfl (zg rfl fo78_0 rfl ?_)
    refine zf (dj := 58) rfl rfl rfl (zi rfl sc30 rfl qC ?_)
    refine zf (dj := 58) rfl rfl rfl (y1 rfl zG rfl (zf (dj := 58) rfl rfl rfl (yn rfl rfl rfl (y6 rfl rfl rfl (z5 rfl rfl (zv (t := 64) rfl (show _ = Value.bool true from congrArg Value.bool (decide_eq_true jO)) ?_))))))
    refine zf (dj := 64) rfl rfl rfl (zg rfl fo78_1 rfl ?_)
    refine zf (dj := 64) rfl rfl rfl (zi rfl sc76 rfl qC ?_)
    exact zf (dj := 64) rfl rfl rfl (y1 rfl xk rfl (zf (dj := 64) rfl rfl rfl (yn rfl rfl rfl (y6 rfl rfl rfl (z9 rfl rfl (z7 (z4 (zj (zx (zA rfl rfl ⟨congrArg Value.bool (decide_eq_true jO), rfl, rfl⟩ qD qF))))))))))
   ·try simp only [dq] at h55
    obtain ⟨sn1, ha⟩ := mo_A (n := n) jO n 70 [] jO (Nat.le_refl _) jO (fun j _ q => by cases q)
    rw [decide_eq_true jO] at ha
    have ha2 : W = (⟨sn1, Pn n, Wn n, []⟩, true) := hW.trans ha
    rw [ha2, frO_t rfl] at hp_ hw_ hr_ ⊢
    rw [frE_t rfl]
    have hp1 : pn = n + 1 := by rw [← hp_]; exact Pn_len n
    have hw1 : wn = n + 1 := by rw [← hw_]; exact Wn_len n
    have hr1 : rn = 0 := hr_.symm
    obtain ⟨sn2, hb⟩ := mo_A (n := n) jO n 41 [] jO (Nat.le_refl _) jO (fun j _ q => by cases q)
    rw [decide_eq_true jO] at hb
    have hrp : rpF (mos n) (fun y : ID32 => decide (y.1 ∈ ([] : List (List UInt8)))) 41 (cn n) fs0 false = (⟨sn2, Pn n, Wn n, []⟩, false) := by rw [tb_nil, rp_go, hb]; rfl
    refine yw (sz := 1) (e := 9) ?_
    refine zU qP (show own 1 9 none 0 0 [] = own 1 9 none 0 0 (([] : List (List UInt8)).map ys) from rfl) ?_
    refine yA (rows := ([] : List (List UInt8)).map ys) qP ?_
    refine zm (z4 (z6 (yy (clsL [1, 1, 1, 1, 1, 1, 1, 1, 1, 1, 1, 1, 1, 1, 1, 1, 1, 1, 1, 1, 1, 1, 1, 1, 1, 1, 1, 1, 2, 1, 2, 2, 2, 1, 1]) qk ?_)))
    refine ze 0 rfl rfl (z5 rfl rfl (zd (ze 1 rfl rfl (yn rfl rfl rfl (zd (ze 2 rfl rfl (z5 rfl rfl (zd (A.known (t := 72) rfl (show _ = Value.bool true from congrArg Value.bool (decide_eq_true rfl)) ?_)))))))))
    refine ze 3 rfl rfl (zf (dj := 72) rfl rfl rfl (zg rfl fo78_0 rfl ?_))
    refine zd (ze 4 rfl rfl (zf (dj := 72) rfl rfl rfl (zi rfl sc30 rfl qC ?_)))
    refine zd (ze 5 rfl rfl (zf (dj := 72) rfl rfl rfl (y1 rfl zG rfl (zd (ze 6 rfl rfl (zf (dj := 72) rfl rfl rfl (z5 rfl rfl (zd (ze 7 rfl rfl (zf (dj := 72) rfl rfl rfl (zH rfl rfl rfl jO ?_)))))))))))
    refine zd (ze 8 rfl rfl (zf (dj := 72) rfl rfl rfl (yn rfl rfl rfl (zd (ze 9 rfl rfl (y6 rfl rfl rfl (zd (ze 10 rfl rfl (z5 rfl rfl (zd (A.known (t := 80) rfl (show _ = Value.bool true from congrArg Value.bool (decide_eq_true jO)) ?_)))))))))))
    refine ze 11 rfl rfl (zf (dj := 80) rfl rfl rfl (zg rfl fo78_1 rfl ?_))
    refine zd (ze 12 rfl rfl (zf (dj := 80) rfl rfl rfl (zi rfl sc76 rfl qC ?_)))
    refine zd (ze 13 rfl rfl (zf (dj := 80) rfl rfl rfl (y1 rfl xk rfl (zd (ze 14 rfl rfl (zf (dj := 80) rfl rfl rfl (z5 rfl rfl (zd (ze 15 rfl rfl (zf (dj := 80) rfl rfl rfl (zH rfl rfl rfl jO ?_)))))))))))
    refine zd (ze 16 rfl rfl (zf (dj := 80) rfl rfl rfl (yn rfl rfl rfl (zd (ze 17 rfl rfl (y6 rfl rfl rfl (zd (ze 18 rfl rfl (z5 rfl rfl (zd (A.known (t := 88) rfl (show _ = Value.bool true from congrArg Value.bool (decide_eq_true jO)) ?_)))))))))))
    refine ze 19 rfl rfl (zf (dj := 88) rfl rfl rfl (zg rfl fo78_2 rfl ?_))
    refine zd (ze 20 rfl rfl (zf (dj := 88) rfl rfl rfl (zi rfl sc30 rfl qC ?_)))
    refine zd (ze 21 rfl rfl (zf (dj := 88) rfl rfl rfl (y1 rfl zG rfl (zd (ze 22 rfl rfl (zf (dj := 88) rfl rfl rfl (yn rfl rfl rfl (zd (ze 23 rfl rfl (y6 rfl rfl rfl (zd (ze 24 rfl rfl (z5 rfl rfl (zd (A.known (t := 94) rfl (show _ = Value.bool true from congrArg Value.bool (decide_eq_true jO)) ?_)))))))))))))))
    refine ze 25 rfl rfl (zf (dj := 94) rfl rfl rfl (zp rfl ag78 rfl qN ?_))
    refine zd (ze 26 rfl rfl (zf (dj := 94) rfl rfl rfl (zg rfl fo26_0 rfl ?_)))
    refine zd (ze 27 rfl rfl (zf (dj := 94) rfl rfl rfl (zi rfl sc24 rfl qC ?_)))
    refine zd (ze 29 rfl rfl (zf (dj := 94) rfl rfl rfl (zp rfl zD rfl qN ?_)))
    refine zd (zt 28 rfl (zf (dj := 94) rfl rfl rfl (zC rfl (ev1 rfl) qD qS (told13_spec (os := mos n) jO) ?_)))
    rintro _ _ _ ⟨ta, tc, rfl, rfl, rfl⟩
    refine zy qA qA ?_
    refine yY (rows := (mos n).map obR) qP ?_
    refine zq rfl qD ?_
    refine zt 30 rfl (zf (dj := 94) rfl rfl rfl (zW rfl (ev1 rfl) qD qS (obytes_spec (l := (cn n).1) hcn2) jF ?_))
    refine zq rfl qD ?_
    refine zt 31 rfl (zf (dj := 94) rfl rfl rfl (zC rfl (ev3 rfl rfl rfl) qD qS (rof_spec (os := mos n) (tl := []) (x := cn n) jO jD (mos_shf n) mo_ptd) ?_))
    rintro _ _ _ ⟨pa2, pn2, pc2, wa2, wn2, wc2, ra2, rn2, rc2, sa2, sk2, sd2, rfl, hp2, hw2_, hr2, rfl, rfl⟩
    refine zy qA qA ?_
    rw [hrp] at hp2 hw2_ hr2 ⊢
    refine zq rfl qD ?_
    refine zt 32 rfl (zf (dj := 94) rfl rfl rfl (zW rfl (ev2 rfl rfl) qD qS (is22_spec (s := ⟨sn1, Pn n, Wn n, []⟩) jO jO jO (Wn_ok n)) jF ?_))
    refine zq rfl qD ?_
    refine ze 33 rfl rfl (y6 rfl rfl rfl (zd (ze 34 rfl rfl (z9 rfl rfl (zd (y3 qk ?_))))))
    exact z4 (zj (zA rfl rfl ⟨rfl, rfl, rfl⟩ qD qF))
end Cv
