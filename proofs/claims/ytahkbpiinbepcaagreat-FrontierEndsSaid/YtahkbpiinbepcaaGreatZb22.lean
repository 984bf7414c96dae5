/-
  The walks: the law on the end.
-/
import Derived.Test.YtahkbpiinbepcaaGreatYb22
import Derived.Test.YtahkbpiinbepcaaGreatProg
import Derived.KernelRfl
set_option linter.unusedVariables false
set_option linter.unusedSimpArgs false
set_option linter.unusedSectionVars false
set_option maxHeartbeats 400000
set_option maxRecDepth 10000
namespace Cv
open Go Go.Proofs

theorem ofo_spec {a : Option Addr} {n c : Nat} {os : List Ob} {x : ID32} (hn : n ≤ 100000) (hs : Shf os) (hT : ∀ y, (lkR os y).2.2 = true → PtD os 3 (-1) (lkR os y).1) (hd : PDp os 41 x) (hk : (pthF os (fun _ : ID32 => false) 41 x fs0).2 = true) : Spec Tryz.prog 43 [.iface 26 (.agg #[.slice a n c]), fnV 47 [], .agg (iC x).toArray] [rsl 34 a n c (os.map obC)] [] (fun v D' M' => ∃ (pa : Option Addr) (pn pc : Nat) (wa : Option Addr) (wn wc : Nat) (ra : Option Addr) (rn rc : Nat), v = .tuple #[.agg #[.slice pa pn pc, .slice wa wn wc, .slice ra rn rc], .int .i64 0] ∧ ((pthF os (fun _ : ID32 => false) 41 x fs0).1.ps.length = pn) ∧ ((pthF os (fun _ : ID32 => false) 41 x fs0).1.ws.length = wn) ∧ ((pthF os (fun _ : ID32 => false) 41 x fs0).1.rs.length = rn) ∧ D' = [] ∧ M' = [own 32 38 pa pn pc (((pthF os (fun _ : ID32 => false) 41 x fs0).1.ps).map iC), own 34 90 wa wn wc (((pthF os (fun _ : ID32 => false) 41 x fs0).1.ws).map wnC), own 32 38 ra rn rc (((pthF os (fun _ : ID32 => false) 41 x fs0).1.rs).map iC)]) := by
 refine zG (n := 23) Tryz.func43 ?_
 intro σ D M
 refine yP (a := a) (len := n) (cap := c) (rows := os.map obC) qM (fun hol hoc => ?_)
 rw [List.length_map] at hol
 have hx2 := x.2
 have hx3 := zQ x
 have huk : unk os ([] : SnM) ≤ os.length := List.length_filter_le _ _
 refine z6 (z8 (yA rfl rfl rfl (fun b5 => ?_)))
 refine zR rfl ze78 (fun b6 => ?_)
 refine z9 rfl rfl (z7 (y8 (A := cl b5 38 (iC x)) qP ?_))
 refine z4 (z6 (z8 (z5 rfl rfl (z5 rfl rfl (L.makeMap aK iK rfl (fun sm => ?_))))))
 refine yu rfl bu151 (zx rfl rfl rfl <| zx rfl rfl rfl <| zx rfl rfl rfl <| zK (out := [Value.slice none 0 0, Value.slice none 0 0, Value.slice none 0 0]) rfl) ?_
 refine yA rfl rfl rfl (fun b13 => ?_)
 refine z9 rfl rfl (z7 (yv (sz := 32) (e := 38) ?_))
 refine zN qP (show own 32 38 none 0 0 [] = own 32 38 none 0 0 ((([] : List ID32)).map iC) from rfl) ?_
 refine yv (sz := 34) (e := 90) ?_
 refine zN qP (show own 34 90 none 0 0 [] = own 34 90 none 0 0 ((([] : List Wnt)).map wnC) from rfl) ?_
 refine yv (sz := 32) (e := 38) ?_
 refine zN qP (show own 32 38 none 0 0 [] = own 32 38 none 0 0 ((([] : List ID32)).map iC) from rfl) ?_
 refine z4 (z6 (z6 ?_))
 have hn1 : n ≤ 1000000 := by omega
 refine z8 (z5 rfl rfl (zt rfl zy rfl qN ?_))
 refine zA rfl (ev2 rfl rfl) qD qS (path_spec hn1 hs hT (fun y => none22_spec (d1 := rsl 34 a n c (os.map obC)) (d2 := rsl 34 a n c (os.map obC))) 41 none 0 0 none 0 0 none 0 0 [] 0 fs0 x hd .start jO fs0_ok jD rfl rfl rfl) ?_
 rintro _ _ _ ⟨pa, pn, pc, wa, wn, wc, ra, rn, rc, ml, C, rfl, hp, hw, hr, hm, hC, rfl, rfl⟩
 refine zw qA qA ?_
 refine yR rfl rfl (z7 (z4 (yJ rfl (by rw [hk]; rfl) ?_)))
 refine zp (z4 (z6 (z8 (z5 rfl rfl (y6 rfl rfl ?_)))))
 refine zh rfl fo151_3 rfl ?_
 refine zt rfl ag78 rfl qN ?_
 refine zL ag78 rfl rfl qL qO qU qW ?_
 exact z9 rfl rfl (z7 (z4 (zm (x8 rfl ag78 rfl qN rfl ⟨pa, pn, pc, wa, wn, wc, ra, rn, rc, rfl, hp, hw, hr, rfl, rfl⟩ qD qF))))
theorem fren_law {ka : Option Addr} {kn kc : Nat} {z : Int} {pk : List Int} (hzpk : ∀ z ∈ pk, -9223372036854775808 ≤ z ∧ z ≤ 9223372036854775807) (hzb : -9223372036854775808 ≤ z ∧ z ≤ 9223372036854775807) (hkn : kn ≤ 4611686018427387904) : Spec Tryz.prog 9 [.int .i64 z, .slice ka kn kc] [rsl 1 ka kn kc (pk.map e3)] [] (fun v D' M' => v = .bool true ∧ D' = [] ∧ M' = []) := by
 refine zG (n := 149) Tryz.func9 ?_
 intro σ D M
 refine yP (a := ka) (len := kn) (cap := kc) (rows := pk.map e3) qM (fun hkl hkc => ?_)
 rw [List.length_map] at hkl
 refine z6 (z8 (z9 rfl rfl (z7 (z4 (z6 (z6 (z8 (y5 rfl (evs.nil) qD qS (awake22_spec) jF ?_))))))))
 refine yR rfl rfl (z7 (z4 (yJ rfl rfl ?_)))
 refine zp (z4 (z6 (z8 (z5 rfl rfl (zA rfl (ev1 rfl) qD qS (made_spec hzb) ?_)))))
 rintro _ _ _ ⟨ma, mb, ml_, mc, ol, oc, rfl, hml, hol, rfl, rfl⟩
 refine zw qA qA ?_
 obtain ⟨k, hk⟩ : ∃ k, k = (z % 8).toNat := ⟨_, rfl⟩
 have hk8 : k < 8 := by omega
 rw [← hk] at hml hol ⊢
 have hz8 := md_len k
 have hzs := md_sz k
 have hzo := md_olen hk8
 have hz3 := md_3 hk8
 obtain ⟨Z, hZ⟩ : ∃ x, x = md k := ⟨_, rfl⟩
 rw [← hZ] at hml hol hz8 hzs hzo hz3 ⊢
 have hin := inC_len Z.1 ma ml_ mc
 have hp32 := Z.1.1.2
 obtain ⟨u, hu⟩ : ∃ y, y = nm k := ⟨_, rfl⟩
 have hu2 := u.2
 have hu3 := zQ u
 refine z5 rfl rfl (zO rfl rfl rfl (zO rfl rfl rfl (zR rfl ze54 (fun b5 => ?_))))
 refine zL ag54 rfl rfl qL qO qU qW ?_
 refine z9 rfl rfl (z7 (y8 (A := cl b5 54 (inC Z.1 ma ml_ mc)) qP ?_))
 refine z4 (z6 (z8 (L.makeMap aK obV rfl (fun sm => ?_))))
 refine z9 rfl rfl (z7 (z4 (z6 (z6 (z8 (z5 rfl rfl (z7 (z4 (zv (zY (fun K' D' M' μ => ∃ (i : Nat) (ml : AlM), (i ≤ 8 ∧ AlI i 0 ml) ∧ K' = [(29, .int .i64 (i : Int))] ∧ D' = [] ∧ M' = [mp sm aK obV ml] ∧ μ = 8 - i) (.cons (t := 1) rfl <| .cons (t := 5) rfl <| .cons (t := 7) rfl <| za _) (⟨0, [], ⟨Nat.zero_le _, .start⟩, rfl, rfl, rfl, rfl⟩) (.cons (t := 29) rfl <| za _) qD qS ?_))))))))))
 rintro K1 D1 M1 m1 ⟨i, ml, ⟨hi, hAl⟩, rfl, rfl, rfl, rfl⟩
 refine zC qA qA qA ?_
 refine z6 (z8 (zW rfl rfl rfl (z7 (z4 (z6 (zq rfl (fun h30 => ?_) (fun h30 => ?_)))))))
 ·try simp only [dq] at h30
  refine zp (z4 (z6 (zv (z6 (z8 (z5 rfl rfl (z9 rfl rfl (z7 (z4 (z6 ?_))))))))))
  have hi8 : i < 8 := by omega
  refine z8 (z5 rfl rfl (zA rfl (ev1 rfl) qD qS (made_spec (z := (i : Int)) jO) ?_))
  rintro _ _ _ ⟨xa, xb, xl, xc, xo, xd, rfl, hxl, hxo, rfl, rfl⟩
  refine zw qA qA ?_
  rw [show (((i : Nat) : Int) % 8).toNat = i from by omega] at hxl hxo ⊢
  have hx8 := md_len i
  have hxs := md_sz i
  have hx7 := md_olen hi8
  obtain ⟨X, hX⟩ : ∃ x, x = md i := ⟨_, rfl⟩
  rw [← hX] at hxl hxo hx8 hxs hx7 ⊢
  have hinx := inC_len X.1 xa xl xc
  have hpx := X.1.1.2
  refine z5 rfl rfl (zO rfl rfl rfl (zO rfl rfl rfl (zR rfl ze54 (fun b9 => ?_))))
  refine zL ag54 rfl rfl qL qO qU qW ?_
  refine z9 rfl rfl (z7 (z4 (z6 (z8 (z5 rfl rfl (y3 rfl xe rfl (z5 rfl rfl (z7 (z4 (zv (zY (fun K' D' M' μ => ∃ (j : Nat) (ml2 : AlM), (j ≤ xo ∧ AlI i j ml2) ∧ K' = [(39, .int .i64 (j : Int))] ∧ D' = [] ∧ M' = [mp sm aK obV ml2] ∧ μ = xo - j) (.cons (t := 1) rfl <| .cons (t := 5) rfl <| .cons (t := 7) rfl <| .cons (t := 29) rfl <| .cons (t := 37) rfl <| .cons (t := 38) rfl <| za _) (⟨0, ml, ⟨Nat.zero_le _, hAl⟩, rfl, rfl, rfl, rfl⟩) (.cons (t := 39) rfl <| za _) qD qS ?_)))))))))))
  rintro K1 D1 M1 m1 ⟨j, ml2, ⟨hj, hA2⟩, rfl, rfl, rfl, rfl⟩
  refine zC qA qA qA ?_
  refine z6 (z8 (zW rfl rfl rfl (z7 (z4 (z6 (zq rfl (fun h40 => ?_) (fun h40 => ?_)))))))
  ·try simp only [dq] at h40
   refine zp (z4 (z6 (zv (z6 ?_))))
   have hgo : X.2.2[j]? = some (gd X.2.2 j) := zH jO
   obtain ⟨o, ho_⟩ : ∃ z, z = gd X.2.2 j := ⟨_, rfl⟩
   rw [← ho_] at hgo
   clear ho_
   have hgr : (X.2.2.map obC)[j]? = some (obC o) := zS hgo
   have ho33 := obC_len o
   have ho32 := o.2.1.2
   refine z8 (L.idx (i := j) rfl xe sz45 rfl rfl qM jR qG (fun b41 o41 => ?_))
   refine zt rfl ag45 rfl (x9 qM ho33) ?_
   refine zR rfl ze45 (fun b12 => ?_)
   refine zL ag45 rfl rfl qL qO qU qW ?_
   refine z7 (y8 (A := cl b12 45 (obC o)) qP ?_)
   refine z4 (z8 (z5 rfl rfl (zh rfl fo45_1 rfl ?_)))
   refine zt rfl zy rfl qN ?_
   refine zt rfl ag45 rfl qN ?_
   refine L.mapUpdate (kenc := aK) (venc := obV) (l := ml2) (k := o.2.1) (v := o) Tryz.underlying88 (keyT_arr x7 yz sc5) rfl rfl rfl rfl qP ?_
   refine z7 (zM (z4 (z8 (zF rfl rfl rfl jO ?_))))
   exact z5 rfl rfl (z7 (z4 (zT ⟨j + 1, put ml2 o.2.1 o, ⟨by omega, hA2.s hi8 (by rw [← hX]; exact hgo)⟩, rfl, rfl, rfl, rfl⟩ qI (.cons (t := 39) rfl <| za _) (.cons (t := 1) rfl <| .cons (t := 5) rfl <| .cons (t := 7) rfl <| .cons (t := 29) rfl <| .cons (t := 37) rfl <| .cons (t := 38) rfl <| za _) qD qD qF)))
  ·try simp only [dq] at h40
   obtain rfl : xo = j := by omega
   refine zU (zr (zr (zV (zM (z4 (z8 (zF rfl rfl rfl jO ?_)))))))
   exact z5 rfl rfl (z7 (z4 (zT ⟨i + 1, ml2, ⟨by omega, hA2.next (by rw [← hX]; omega)⟩, rfl, rfl, rfl, rfl⟩ qI (.cons (t := 29) rfl <| za _) (.cons (t := 1) rfl <| .cons (t := 5) rfl <| .cons (t := 7) rfl <| za _) qD qD qF)))
 ·try simp only [dq] at h30
  obtain rfl : i = 8 := by omega
  refine zU (zr (zr (zV (z4 (z6 (z8 (yu rfl bu26 (zK (out := [Value.slice none 0 0]) rfl) ?_)))))))
  refine zR rfl ze26 (fun b13 => ?_)
  refine zL ag26 rfl rfl qL qO qU qW ?_
  refine z7 (yv (sz := 34) (e := 45) ?_)
  refine zN qP (show own 34 45 none 0 0 [] = own 34 45 none 0 0 ((([] : List Ob)).map obC) from rfl) ?_
  refine z4 (z6 (z6 (z8 (z5 rfl rfl (z7 (z4 (zv (zY (fun K' D' M' μ => ∃ (i sc : Nat) (sa : Option Addr) (os : List Ob), (os.length = i ∧ i + miss os ≤ 100 ∧ Uni os ∧ Shf os) ∧ K' = [(50, .int .i64 (i : Int))] ∧ D' = [] ∧ M' = [cl b13 26 [.slice sa i sc], own 34 45 sa i sc ((os).map obC), mp sm aK obV ml] ∧ μ = 200 - i) (.cons (t := 1) rfl <| .cons (t := 5) rfl <| .cons (t := 7) rfl <| .cons (t := 13) rfl <| za _) (⟨0, 0, none, [], ⟨rfl, by have := miss_0; omega, uni_nil, shf_nil⟩, rfl, rfl, rfl, rfl⟩) (.cons (t := 50) rfl <| za _) qD qS ?_))))))))
  rintro K1 D1 M1 m1 ⟨i, sc, sa, os, ⟨hsl, hms, hun, hsh⟩, rfl, rfl, rfl, rfl⟩
  refine zC qA qA qA ?_
  have hok := uni_ok hun (fun _ : ID32 => false) (f := 41) hk8
  have hWQ : WQ os (pthF os (fun _ : ID32 => false) 41 (nm k) fs0).1.ws := pth_wq hun _ 41 (nm k) fs0 ⟨k, hk8, rfl⟩ (fun w h => by cases h)
  have hpd := uni_pd hun 41 k jO hk8
  have hfin : (pthF os (fun _ : ID32 => false) 41 (nm k) fs0).1.ws = [] → (pthF os (fun _ : ID32 => false) 41 (nm k) fs0).1.rs.length = (pthF os (fun _ : ID32 => false) 41 (nm k) fs0).1.ps.length ∧ ∃ l, (pthF os (fun _ : ID32 => false) 41 (nm k) fs0).1.ps = l ++ [nm k] := fun h => ⟨(pth_end hun _ 41 (nm k) fs0 ⟨k, hk8, rfl⟩ h).2 rfl, pth_last (f := 40) (fun q => by cases q) rfl hok⟩
  have hlf := fr_lens os (fun _ : ID32 => false) 41 (nm k)
  rw [frO_t hok] at hlf
  rw [← hu] at hok hWQ hpd hfin hlf
  obtain ⟨R, hR⟩ : ∃ y, y = (pthF os (fun _ : ID32 => false) 41 u fs0).1 := ⟨_, rfl⟩
  rw [← hR] at hWQ hfin hlf
  refine z6 (z8 (zW rfl rfl rfl (z7 (z4 (z6 (zq rfl (fun h51 => ?_) (fun h51 => ?_)))))))
  ·try simp only [dq] at h51
   refine zp (z4 (z6 (zv (z6 (z8 (z5 rfl rfl (z9 rfl rfl (z7 (z4 (z6 (yi (fun K' D' M' => ∃ (b15 : Nat) (qa : Option Addr) (qn qc : Nat) (va : Option Addr) (vn vc : Nat) (ra : Option Addr) (rn rc : Nat), (R.ps.length = qn ∧ R.ws.length = vn ∧ R.rs.length = rn) ∧ K' = [(15, .pointer (some ⟨b15, 0, none⟩)), (16, .int .i64 0)] ∧ D' = [cl b15 78 [.slice qa qn qc, .slice va vn vc, .slice ra rn rc], rsl 32 qa qn qc ((R.ps).map iC), rsl 34 va vn vc ((R.ws).map wnC)] ∧ M' = [cl b13 26 [.slice sa i sc], own 34 45 sa i sc ((os).map obC)]) (M0 := [cl b13 26 [.slice sa i sc], own 34 45 sa i sc ((os).map obC)]) (.cons (t := 1) rfl <| .cons (t := 5) rfl <| .cons (t := 7) rfl <| .cons (t := 13) rfl <| .cons (t := 14) rfl <| .cons (t := 50) rfl <| za _) qS ?_ ?_)))))))))))
   ·skip
    refine yn (clsL [2, 1, 1, 2, 2, 1, 1, 1, 2, 2, 1]) qk ?_
    refine ze 2 rfl rfl (zt rfl ag54 rfl qN ?_)
    refine zd (yM (is := [0, 3, 8]) qk jD (yf rfl ?_ <| yf rfl ?_ <| yf rfl ?_ <| yN) )
    ·skip
     refine zt rfl ag26 rfl qN ?_
     refine zj rfl qD ?_
     refine ze 1 rfl rfl (L.mkIface rfl xq (by intro i q; cases q) rfl ?_)
     refine zd (yM (is := [3, 8]) qk jD (yf rfl ?_ <| yf rfl ?_ <| yN) )
     ·skip
      refine y5 rfl (ev1 rfl) qD qS (iname_spec (l := Z.2.1) (p := Z.1) jO jO) jF ?_
      rw [show inN Z.1 Z.2.1 = u from by rw [hu, hZ, nm_eq]]
      refine zj rfl qD ?_
      refine yM (is := [4, 8]) qk jD (yf rfl ?_ <| yf rfl ?_ <| yN) 
      ·skip
       refine L.callB1 (A := own 34 45 sa i sc ((os).map obC)) rfl (ev3 rfl rfl rfl) qS qP (fun z H => xm H) (ofo_spec (os := os) (x := u) jO hsh (uni_ptd hun) hpd hok) ?_
       rintro _ _ _ ⟨qa, qn, qc, va, vn, vc, ra, rn, rc, rfl, hp_, hw_, hr_, rfl, rfl⟩
       refine zw xi qA ?_
       rw [← hR] at hp_ hw_ hr_ ⊢
       refine yq (rows := (R.ps).map iC) qP ?_
       refine yq (rows := (R.ws).map wnC) qP ?_
       refine yq (rows := (R.rs).map iC) qP ?_
       refine zj rfl qD ?_
       refine ze 5 rfl rfl (z5 rfl rfl (zd (ze 6 rfl rfl (zO rfl rfl rfl (zd (ze 7 rfl rfl (zO rfl rfl rfl (zd (zo 8 rfl (zR rfl ze78 (fun b15 => ?_)))))))))))
       refine zj rfl qD ?_
       refine zo 9 rfl (zL ag78 rfl rfl qL qO qU qW ?_)
       refine zj rfl qD ?_
       refine ze 10 rfl rfl (z9 rfl rfl (zd (zX qk ?_)))
       refine y8 (A := cl b15 78 [.slice qa qn qc, .slice va vn vc, .slice ra rn rc]) qP ?_
       exact z4 (zE ⟨_, _, _, _, _, _, _, _, _, _, ⟨hp_, hw_, hr_⟩, rfl, rfl, rfl⟩ (.cons (t := 15) rfl <| .cons (t := 16) rfl <| za _) (.cons (t := 1) rfl <| .cons (t := 5) rfl <| .cons (t := 7) rfl <| .cons (t := 13) rfl <| .cons (t := 14) rfl <| .cons (t := 50) rfl <| za _) qD qD qF)
      ·skip
       refine zR rfl ze78 (fun b15 => ?_)
       refine zj rfl qD ?_
       refine zo 4 rfl (L.callB1 (A := own 34 45 sa i sc ((os).map obC)) rfl (ev3 rfl rfl rfl) qS qP (fun z H => xm H) (ofo_spec (os := os) (x := u) jO hsh (uni_ptd hun) hpd hok) ?_)
       rintro _ _ _ ⟨qa, qn, qc, va, vn, vc, ra, rn, rc, rfl, hp_, hw_, hr_, rfl, rfl⟩
       refine zw xi qA ?_
       rw [← hR] at hp_ hw_ hr_ ⊢
       refine yq (rows := (R.ps).map iC) qP ?_
       refine yq (rows := (R.ws).map wnC) qP ?_
       refine yq (rows := (R.rs).map iC) qP ?_
       refine zj rfl qD ?_
       refine ze 5 rfl rfl (z5 rfl rfl (zd (ze 6 rfl rfl (zO rfl rfl rfl (zd (ze 7 rfl rfl (zO rfl rfl rfl (zd (zo 9 rfl (zL ag78 rfl rfl qL qO qU qW ?_))))))))))
       refine zj rfl qD ?_
       refine ze 10 rfl rfl (z9 rfl rfl (zd (zX qk ?_)))
       refine y8 (A := cl b15 78 [.slice qa qn qc, .slice va vn vc, .slice ra rn rc]) qP ?_
       exact z4 (zE ⟨_, _, _, _, _, _, _, _, _, _, ⟨hp_, hw_, hr_⟩, rfl, rfl, rfl⟩ (.cons (t := 15) rfl <| .cons (t := 16) rfl <| za _) (.cons (t := 1) rfl <| .cons (t := 5) rfl <| .cons (t := 7) rfl <| .cons (t := 13) rfl <| .cons (t := 14) rfl <| .cons (t := 50) rfl <| za _) qD qD qF)
     ·skip
      refine zR rfl ze78 (fun b15 => ?_)
      refine zj rfl qD ?_
      refine zo 3 rfl (y5 rfl (ev1 rfl) qD qS (iname_spec (l := Z.2.1) (p := Z.1) jO jO) jF ?_)
      rw [show inN Z.1 Z.2.1 = u from by rw [hu, hZ, nm_eq]]
      refine zj rfl qD ?_
      refine zo 4 rfl (L.callB1 (A := own 34 45 sa i sc ((os).map obC)) rfl (ev3 rfl rfl rfl) qS qP (fun z H => xm H) (ofo_spec (os := os) (x := u) jO hsh (uni_ptd hun) hpd hok) ?_)
      rintro _ _ _ ⟨qa, qn, qc, va, vn, vc, ra, rn, rc, rfl, hp_, hw_, hr_, rfl, rfl⟩
      refine zw xi qA ?_
      rw [← hR] at hp_ hw_ hr_ ⊢
      refine yq (rows := (R.ps).map iC) qP ?_
      refine yq (rows := (R.ws).map wnC) qP ?_
      refine yq (rows := (R.rs).map iC) qP ?_
      refine zj rfl qD ?_
      refine ze 5 rfl rfl (z5 rfl rfl (zd (ze 6 rfl rfl (zO rfl rfl rfl (zd (ze 7 rfl rfl (zO rfl rfl rfl (zd (zo 9 rfl (zL ag78 rfl rfl qL qO qU qW ?_))))))))))
      refine zj rfl qD ?_
      refine ze 10 rfl rfl (z9 rfl rfl (zd (zX qk ?_)))
      refine y8 (A := cl b15 78 [.slice qa qn qc, .slice va vn vc, .slice ra rn rc]) qP ?_
      exact z4 (zE ⟨_, _, _, _, _, _, _, _, _, _, ⟨hp_, hw_, hr_⟩, rfl, rfl, rfl⟩ (.cons (t := 15) rfl <| .cons (t := 16) rfl <| za _) (.cons (t := 1) rfl <| .cons (t := 5) rfl <| .cons (t := 7) rfl <| .cons (t := 13) rfl <| .cons (t := 14) rfl <| .cons (t := 50) rfl <| za _) qD qD qF)
    ·skip
     refine y5 rfl (ev1 rfl) qD qS (iname_spec (l := Z.2.1) (p := Z.1) jO jO) jF ?_
     rw [show inN Z.1 Z.2.1 = u from by rw [hu, hZ, nm_eq]]
     refine zj rfl qD ?_
     refine yM (is := [0, 8]) qk jD (yf rfl ?_ <| yf rfl ?_ <| yN) 
     ·skip
      refine zt rfl ag26 rfl qN ?_
      refine zj rfl qD ?_
      refine ze 1 rfl rfl (L.mkIface rfl xq (by intro i q; cases q) rfl ?_)
      refine zd (yM (is := [4, 8]) qk jD (yf rfl ?_ <| yf rfl ?_ <| yN) )
      ·skip
       refine L.callB1 (A := own 34 45 sa i sc ((os).map obC)) rfl (ev3 rfl rfl rfl) qS qP (fun z H => xm H) (ofo_spec (os := os) (x := u) jO hsh (uni_ptd hun) hpd hok) ?_
       rintro _ _ _ ⟨qa, qn, qc, va, vn, vc, ra, rn, rc, rfl, hp_, hw_, hr_, rfl, rfl⟩
       refine zw xi qA ?_
       rw [← hR] at hp_ hw_ hr_ ⊢
       refine yq (rows := (R.ps).map iC) qP ?_
       refine yq (rows := (R.ws).map wnC) qP ?_
       refine yq (rows := (R.rs).map iC) qP ?_
       refine zj rfl qD ?_
       refine ze 5 rfl rfl (z5 rfl rfl (zd (ze 6 rfl rfl (zO rfl rfl rfl (zd (ze 7 rfl rfl (zO rfl rfl rfl (zd (zo 8 rfl (zR rfl ze78 (fun b15 => ?_)))))))))))
       refine zj rfl qD ?_
       refine zo 9 rfl (zL ag78 rfl rfl qL qO qU qW ?_)
       refine zj rfl qD ?_
       refine ze 10 rfl rfl (z9 rfl rfl (zd (zX qk ?_)))
       refine y8 (A := cl b15 78 [.slice qa qn qc, .slice va vn vc, .slice ra rn rc]) qP ?_
       exact z4 (zE ⟨_, _, _, _, _, _, _, _, _, _, ⟨hp_, hw_, hr_⟩, rfl, rfl, rfl⟩ (.cons (t := 15) rfl <| .cons (t := 16) rfl <| za _) (.cons (t := 1) rfl <| .cons (t := 5) rfl <| .cons (t := 7) rfl <| .cons (t := 13) rfl <| .cons (t := 14) rfl <| .cons (t := 50) rfl <| za _) qD qD qF)
      ·skip
       refine zR rfl ze78 (fun b15 => ?_)
       refine zj rfl qD ?_
       refine zo 4 rfl (L.callB1 (A := own 34 45 sa i sc ((os).map obC)) rfl (ev3 rfl rfl rfl) qS qP (fun z H => xm H) (ofo_spec (os := os) (x := u) jO hsh (uni_ptd hun) hpd hok) ?_)
       rintro _ _ _ ⟨qa, qn, qc, va, vn, vc, ra, rn, rc, rfl, hp_, hw_, hr_, rfl, rfl⟩
       refine zw xi qA ?_
       rw [← hR] at hp_ hw_ hr_ ⊢
       refine yq (rows := (R.ps).map iC) qP ?_
       refine yq (rows := (R.ws).map wnC) qP ?_
       refine yq (rows := (R.rs).map iC) qP ?_
       refine zj rfl qD ?_
       refine ze 5 rfl rfl (z5 rfl rfl (zd (ze 6 rfl rfl (zO rfl rfl rfl (zd (ze 7 rfl rfl (zO rfl rfl rfl (zd (zo 9 rfl (zL ag78 rfl rfl qL qO qU qW ?_))))))))))
       refine zj rfl qD ?_
       refine ze 10 rfl rfl (z9 rfl rfl (zd (zX qk ?_)))
       refine y8 (A := cl b15 78 [.slice qa qn qc, .slice va vn vc, .slice ra rn rc]) qP ?_
       exact z4 (zE ⟨_, _, _, _, _, _, _, _, _, _, ⟨hp_, hw_, hr_⟩, rfl, rfl, rfl⟩ (.cons (t := 15) rfl <| .cons (t := 16) rfl <| za _) (.cons (t := 1) rfl <| .cons (t := 5) rfl <| .cons (t := 7) rfl <| .cons (t := 13) rfl <| .cons (t := 14) rfl <| .cons (t := 50) rfl <| za _) qD qD qF)
     ·skip
      refine zR rfl ze78 (fun b15 => ?_)
      refine zj rfl qD ?_
      refine zo 0 rfl (zt rfl ag26 rfl qN ?_)
      refine zj rfl qD ?_
      refine ze 1 rfl rfl (L.mkIface rfl xq (by intro i q; cases q) rfl ?_)
      refine zd (zo 4 rfl (L.callB1 (A := own 34 45 sa i sc ((os).map obC)) rfl (ev3 rfl rfl rfl) qS qP (fun z H => xm H) (ofo_spec (os := os) (x := u) jO hsh (uni_ptd hun) hpd hok) ?_))
      rintro _ _ _ ⟨qa, qn, qc, va, vn, vc, ra, rn, rc, rfl, hp_, hw_, hr_, rfl, rfl⟩
      refine zw xi qA ?_
      rw [← hR] at hp_ hw_ hr_ ⊢
      refine yq (rows := (R.ps).map iC) qP ?_
      refine yq (rows := (R.ws).map wnC) qP ?_
      refine yq (rows := (R.rs).map iC) qP ?_
      refine zj rfl qD ?_
      refine ze 5 rfl rfl (z5 rfl rfl (zd (ze 6 rfl rfl (zO rfl rfl rfl (zd (ze 7 rfl rfl (zO rfl rfl rfl (zd (zo 9 rfl (zL ag78 rfl rfl qL qO qU qW ?_))))))))))
      refine zj rfl qD ?_
      refine ze 10 rfl rfl (z9 rfl rfl (zd (zX qk ?_)))
      refine y8 (A := cl b15 78 [.slice qa qn qc, .slice va vn vc, .slice ra rn rc]) qP ?_
      exact z4 (zE ⟨_, _, _, _, _, _, _, _, _, _, ⟨hp_, hw_, hr_⟩, rfl, rfl, rfl⟩ (.cons (t := 15) rfl <| .cons (t := 16) rfl <| za _) (.cons (t := 1) rfl <| .cons (t := 5) rfl <| .cons (t := 7) rfl <| .cons (t := 13) rfl <| .cons (t := 14) rfl <| .cons (t := 50) rfl <| za _) qD qD qF)
    ·skip
     refine zR rfl ze78 (fun b15 => ?_)
     refine zj rfl qD ?_
     refine yM (is := [0, 3]) qk jD (yf rfl ?_ <| yf rfl ?_ <| yN) 
     ·skip
      refine zt rfl ag26 rfl qN ?_
      refine zj rfl qD ?_
      refine ze 1 rfl rfl (L.mkIface rfl xq (by intro i q; cases q) rfl ?_)
      refine zd (zo 3 rfl (y5 rfl (ev1 rfl) qD qS (iname_spec (l := Z.2.1) (p := Z.1) jO jO) jF ?_))
      rw [show inN Z.1 Z.2.1 = u from by rw [hu, hZ, nm_eq]]
      refine zj rfl qD ?_
      refine zo 4 rfl (L.callB1 (A := own 34 45 sa i sc ((os).map obC)) rfl (ev3 rfl rfl rfl) qS qP (fun z H => xm H) (ofo_spec (os := os) (x := u) jO hsh (uni_ptd hun) hpd hok) ?_)
      rintro _ _ _ ⟨qa, qn, qc, va, vn, vc, ra, rn, rc, rfl, hp_, hw_, hr_, rfl, rfl⟩
      refine zw xi qA ?_
      rw [← hR] at hp_ hw_ hr_ ⊢
      refine yq (rows := (R.ps).map iC) qP ?_
      refine yq (rows := (R.ws).map wnC) qP ?_
      refine yq (rows := (R.rs).map iC) qP ?_
      refine zj rfl qD ?_
      refine ze 5 rfl rfl (z5 rfl rfl (zd (ze 6 rfl rfl (zO rfl rfl rfl (zd (ze 7 rfl rfl (zO rfl rfl rfl (zd (zo 9 rfl (zL ag78 rfl rfl qL qO qU qW ?_))))))))))
      refine zj rfl qD ?_
      refine ze 10 rfl rfl (z9 rfl rfl (zd (zX qk ?_)))
      refine y8 (A := cl b15 78 [.slice qa qn qc, .slice va vn vc, .slice ra rn rc]) qP ?_
      exact z4 (zE ⟨_, _, _, _, _, _, _, _, _, _, ⟨hp_, hw_, hr_⟩, rfl, rfl, rfl⟩ (.cons (t := 15) rfl <| .cons (t := 16) rfl <| za _) (.cons (t := 1) rfl <| .cons (t := 5) rfl <| .cons (t := 7) rfl <| .cons (t := 13) rfl <| .cons (t := 14) rfl <| .cons (t := 50) rfl <| za _) qD qD qF)
     ·skip
      refine y5 rfl (ev1 rfl) qD qS (iname_spec (l := Z.2.1) (p := Z.1) jO jO) jF ?_
      rw [show inN Z.1 Z.2.1 = u from by rw [hu, hZ, nm_eq]]
      refine zj rfl qD ?_
      refine zo 0 rfl (zt rfl ag26 rfl qN ?_)
      refine zj rfl qD ?_
      refine ze 1 rfl rfl (L.mkIface rfl xq (by intro i q; cases q) rfl ?_)
      refine zd (zo 4 rfl (L.callB1 (A := own 34 45 sa i sc ((os).map obC)) rfl (ev3 rfl rfl rfl) qS qP (fun z H => xm H) (ofo_spec (os := os) (x := u) jO hsh (uni_ptd hun) hpd hok) ?_))
      rintro _ _ _ ⟨qa, qn, qc, va, vn, vc, ra, rn, rc, rfl, hp_, hw_, hr_, rfl, rfl⟩
      refine zw xi qA ?_
      rw [← hR] at hp_ hw_ hr_ ⊢
      refine yq (rows := (R.ps).map iC) qP ?_
      refine yq (rows := (R.ws).map wnC) qP ?_
      refine yq (rows := (R.rs).map iC) qP ?_
      refine zj rfl qD ?_
      refine ze 5 rfl rfl (z5 rfl rfl (zd (ze 6 rfl rfl (zO rfl rfl rfl (zd (ze 7 rfl rfl (zO rfl rfl rfl (zd (zo 9 rfl (zL ag78 rfl rfl qL qO qU qW ?_))))))))))
      refine zj rfl qD ?_
      refine ze 10 rfl rfl (z9 rfl rfl (zd (zX qk ?_)))
      refine y8 (A := cl b15 78 [.slice qa qn qc, .slice va vn vc, .slice ra rn rc]) qP ?_
      exact z4 (zE ⟨_, _, _, _, _, _, _, _, _, _, ⟨hp_, hw_, hr_⟩, rfl, rfl, rfl⟩ (.cons (t := 15) rfl <| .cons (t := 16) rfl <| za _) (.cons (t := 1) rfl <| .cons (t := 5) rfl <| .cons (t := 7) rfl <| .cons (t := 13) rfl <| .cons (t := 14) rfl <| .cons (t := 50) rfl <| za _) qD qD qF)
   rintro _ _ _ ⟨b15, qa, qn, qc, va, vn, vc, ra, rn, rc, ⟨hp_, hw_, hr_⟩, rfl, rfl, rfl⟩
   refine zC qA qA qA ?_
   refine z4 (z6 (z6 (z8 (z5 rfl rfl (L.neI rfl rfl rfl (z7 (z4 (yJ rfl (decide_eq_false (fun q => q rfl)) ?_))))))))
   refine zp (z4 (z6 (z6 (z8 (zh rfl fo78_1 rfl ?_)))))
   refine zi rfl sc76 rfl qC ?_
   refine y3 rfl xg rfl (yx rfl rfl rfl (z7 (z4 (zq rfl (fun h66 => ?_) (fun h66 => ?_)))))
   ·try simp only [dq] at h66
    refine z6 ?_
    obtain ⟨hre, l0, hl0⟩ := hfin (List.length_eq_zero_iff.1 jO)
    have hql : qn = l0.length + 1 := by rw [← hp_, hl0, List.length_append]; rfl
    have hg0 : (R.ps.map iC)[qn - 1]? = some (iC u) := by rw [hl0, List.map_append, List.getElem?_append_right (by rw [List.length_map]; omega), List.length_map, show qn - 1 - l0.length = 0 by omega]; rfl
    refine T.rslAddr (a := qa) (len := qn) (cap := qc) (rows := R.ps.map iC) qM (fun e => by rw [hl0] at e; simp at e) (fun bo oo ha => ?_)
    subst ha
    refine yp qk qk (zh rfl fo78_2 rfl ?_)
    refine zi rfl sc30 rfl qC ?_
    refine y3 rfl zz rfl (zh rfl fo78_0 rfl ?_)
    refine zi rfl sc30 rfl qC ?_
    refine y3 rfl zz rfl (yx rfl rfl rfl (z5 rfl rfl (zu (t := 74) rfl (show _ = Value.bool true from congrArg Value.bool (decide_eq_true jO)) ?_)))
    refine zf (dj := 74) rfl rfl rfl (zh rfl fo78_0 rfl ?_)
    refine zf (dj := 74) rfl rfl rfl (zi rfl sc30 rfl qC ?_)
    refine zf (dj := 74) rfl rfl rfl (y3 rfl zz rfl (zf (dj := 74) rfl rfl rfl (yy rfl rfl rfl (yg rfl rfl rfl (z5 rfl rfl (zu (t := 80) rfl (show _ = Value.bool true from congrArg Value.bool (decide_eq_true jO)) ?_))))))
    refine zf (dj := 80) rfl rfl rfl (zh rfl fo78_0 rfl ?_)
    refine zf (dj := 80) rfl rfl rfl (zi rfl sc30 rfl qC ?_)
    refine zf (dj := 80) rfl rfl rfl (zh rfl fo78_0 rfl ?_)
    refine zf (dj := 80) rfl rfl rfl (zi rfl sc30 rfl qC ?_)
    refine zf (dj := 80) rfl rfl rfl (y3 rfl zz rfl (zf (dj := 80) rfl rfl rfl (zZ rfl rfl rfl jO ?_)))
    refine zf (dj := 80) rfl rfl rfl (L.idxR (i := qn - 1) rfl zz zI rfl rfl qM jR qI qG ?_)
    refine zf (dj := 80) rfl rfl rfl (zt rfl zy rfl (x9 qM hu3) ?_)
    refine zf (dj := 80) rfl rfl rfl (zt rfl ag54 rfl qN ?_)
    refine zf (dj := 80) rfl rfl rfl (y5 rfl (ev1 rfl) qD qS (iname_spec (l := Z.2.1) (p := Z.1) jO jO) jF ?_)
    rw [show inN Z.1 Z.2.1 = u from by rw [hu, hZ, nm_eq]]
    refine zf (dj := 80) rfl rfl rfl (L.eqlArrI qk rfl x7 yz sc5 rfl rfl qL qL ?_)
    exact yg rfl rfl rfl (z9 rfl rfl (ym (z4 (zm (zD (y2 (zD (zD (y2 (zD (zB rfl rfl ⟨congrArg Value.bool (decide_eq_true rfl), rfl, rfl⟩ qD qF)))))))))))
   ·try simp only [dq] at h66
    have hvn : 0 < vn := by omega
    refine zp (z4 (z6 (z8 (z9 rfl rfl (z7 (z4 (z6 (z6 (z8 (z5 rfl rfl (z5 rfl rfl (y3 rfl xt rfl (zW rfl rfl rfl (z7 (z4 (yi (fun K' D' M' => ∃ (kk : Nat), (kk < vn) ∧ K' = [(17, .int .i64 (kk : Int))] ∧ D' = [] ∧ M' = []) (M0 := []) (.cons (t := 1) rfl <| .cons (t := 5) rfl <| .cons (t := 7) rfl <| .cons (t := 13) rfl <| .cons (t := 15) rfl <| .cons (t := 50) rfl <| za _) qS ?_ ?_))))))))))))))))
    ·skip
     refine zq rfl (fun h96 => ?_) (fun h96 => ?_)
     ·try simp only [dq] at h96
      have hgz : pk[i]? = some (gd pk i) := zH jO
      obtain ⟨y, hy_⟩ : ∃ z, z = gd pk i := ⟨_, rfl⟩
      rw [← hy_] at hgz
      clear hy_
      have hrz : (pk.map e3)[i]? = some (e3 y) := zS hgz
      have hbz := hzpk y (List.mem_of_getElem? hgz)
      have hvn0 : (0 : Int) < (vn : Int) := by omega
      have hm1 := Int.tmod_lt_of_pos y hvn0
      have hm2 : -(vn : Int) < y.tmod vn := Int.lt_tmod_of_pos y hvn0
      obtain ⟨kk, hkk, hke⟩ := pick_in y (m := vn) jO
      refine T.rslAddr (a := ka) (len := kn) (cap := kc) (rows := pk.map e3) qM (fun e => by have := congrArg List.length e; rw [List.length_map] at this; simp only [List.length_nil] at this; omega) (fun bo oo ha => ?_)
      subst ha
      refine yp qk qk (z5 rfl rfl (z5 rfl rfl (L.idxR (i := i) rfl xt sz3 rfl rfl qM jR qI qG ?_)))
      refine zi rfl sc3 rfl qC ?_
      refine zh rfl fo78_1 rfl ?_
      refine zi rfl sc76 rfl qC ?_
      refine y3 rfl xg rfl (L.remI rfl rfl rfl jO ?_)
      refine zh rfl fo78_1 rfl ?_
      refine zi rfl sc76 rfl qC ?_
      refine y3 rfl xg rfl (zF rfl rfl rfl jO ?_)
      refine zh rfl fo78_1 rfl ?_
      refine zi rfl sc76 rfl qC ?_
      refine y3 rfl xg rfl (L.remI rfl rfl rfl jO ?_)
      refine zu (t := 112) (u := .int .i64 (kk : Int)) rfl (congrArg (Value.int .i64) hke) ?_
      exact z9 rfl rfl (ym (z4 (zE ⟨kk, hkk, rfl, rfl, rfl⟩ (.cons (t := 17) rfl <| za _) (.cons (t := 1) rfl <| .cons (t := 5) rfl <| .cons (t := 7) rfl <| .cons (t := 13) rfl <| .cons (t := 15) rfl <| .cons (t := 50) rfl <| za _) qD qD qF)))
     ·try simp only [dq] at h96
      exact zp (z4 (zE ⟨0, jO, rfl, rfl, rfl⟩ (.cons (t := 17) rfl <| za _) (.cons (t := 1) rfl <| .cons (t := 5) rfl <| .cons (t := 7) rfl <| .cons (t := 13) rfl <| .cons (t := 15) rfl <| .cons (t := 50) rfl <| za _) qD qD qF))
    rintro _ _ _ ⟨kk, hkk, rfl, rfl, rfl⟩
    refine zC qA qA qA ?_
    refine z4 (z6 ?_)
    have hgi : R.ws[kk]? = some (gd R.ws kk) := zH jO
    obtain ⟨w, hw_2⟩ : ∃ z, z = gd R.ws kk := ⟨_, rfl⟩
    rw [← hw_2] at hgi
    clear hw_2
    have hgr : (R.ws.map wnC)[kk]? = some (wnC w) := zS hgi
    have hw33 := wnC_len w
    have hw32 := w.2.1.2
    obtain ⟨n0, o, hn0, ho, e1, e2, e3, e4⟩ := hWQ w (List.mem_of_getElem? hgi)
    have hlk : look ml w.2.1 = some o := e1 ▸ hAl.get hn0 ho
    have ho33 := obC_len o
    have ho32 := o.2.1.2
    have hos1 := md_shf hn0 o ho
    have hno : o ∉ os := fun q => by have := uni_go hun q; rw [e1, e4] at this; cases this
    refine z8 (zh rfl fo78_1 rfl ?_)
    refine zi rfl sc76 rfl qC ?_
    refine z5 rfl rfl (L.idx (i := kk) rfl xg sz90 rfl rfl qM jR qG (fun b116 o116 => ?_))
    refine zt rfl ag90 rfl (x9 qM hw33) ?_
    refine zR rfl ze90 (fun b18 => ?_)
    refine zL ag90 rfl rfl qL qO qU qW ?_
    refine z7 (y8 (A := cl b18 90 (wnC w)) qP ?_)
    refine z4 (z6 (z8 (z5 rfl rfl (zh rfl fo90_1 rfl ?_))))
    refine zt rfl zy rfl (CellsN.ofF qM (at_w1 w)) ?_
    refine L.lookupS (kenc := aK) (venc := obV) (l := ml) (k := w.2.1) (v := o) rfl Tryz.underlying88 (keyT_arr x7 yz sc5) zv45 rfl rfl qM hlk ?_
    refine z5 rfl rfl (zO rfl rfl rfl (zO rfl rfl rfl (zR rfl ze45 (fun b19 => ?_))))
    refine zL ag45 rfl rfl qL qO qU qW ?_
    refine z9 rfl rfl (z7 (y8 (A := cl b19 45 (obC o)) qP ?_))
    refine z4 (z6 (z6 (z8 (z5 rfl rfl (yR rfl rfl (z5 rfl rfl (zu (t := 127) rfl (show _ = Value.bool false from congrArg Value.bool (rfl)) ?_)))))))
    refine zf (dj := 127) rfl rfl rfl (zh rfl fo45_0 rfl ?_)
    refine zf (dj := 127) rfl rfl rfl (zi rfl sc3 rfl qC ?_)
    refine zf (dj := 127) rfl rfl rfl (zh rfl fo90_0 rfl ?_)
    refine zf (dj := 127) rfl rfl rfl (zi rfl sc3 rfl (Cells.ofF qM (at_w0 w)) ?_)
    refine zf (dj := 127) rfl rfl rfl (L.neI rfl rfl rfl (yh rfl rfl rfl (z5 rfl rfl (zu (t := 134) rfl (show _ = Value.bool false from congrArg Value.bool (decide_eq_false (fun q => q e2))) ?_))))
    refine zf (dj := 134) rfl rfl rfl (zh rfl fo45_2 rfl ?_)
    refine zf (dj := 134) rfl rfl rfl (zi rfl sc9 rfl qC ?_)
    refine zf (dj := 134) rfl rfl rfl (x6 rfl yt rfl (zf (dj := 134) rfl rfl rfl (zh rfl fo90_2 rfl ?_)))
    refine zf (dj := 134) rfl rfl rfl (zi rfl sc3 rfl (Cells.ofF qM (at_w2 w)) ?_)
    refine zf (dj := 134) rfl rfl rfl (yy rfl rfl rfl (yh rfl rfl rfl (z7 (z4 (yJ rfl (decide_eq_false jO) ?_)))))
    refine zp (z4 (z8 (zh rfl fo26_0 rfl ?_)))
    refine zi rfl sc24 rfl qC ?_
    refine zt rfl ag45 rfl qN ?_
    refine ye rfl bs24 jD (yw rfl rfl (by first | with_reducible assumption | (simp; done) | (simp only [List.length_map]; with_reducible assumption) | (simp [*]; done) | rfl) (Nat.le_of_ble_eq_true rfl) qR <| zK (out := []) rfl) (fun b145 => ?_)
    refine yF rfl xe el45 rfl rfl qP qM (by rw [List.append_nil]; exact ho33) (fun u hu => by rw [List.append_nil] at hu; exact one_ob u hu) qI qI (fun a146 c146 => ?_)
    refine zh rfl fo26_0 rfl ?_
    refine y9 sc24 rfl rfl rfl qU qE ?_
    refine z7 (zM (z4 (z8 (zF rfl rfl rfl jO ?_))))
    refine z5 rfl rfl (z7 (z4 (y7 _ ((os ++ [o]).map obC) qP (by rw [List.map_append, List.append_nil]; rfl) ?_)))
    exact zT ⟨i + 1, _, _, os ++ [o], ⟨by rw [List.length_append, hsl]; rfl, by have := miss_s (md_dObs hn0 ho) hno; omega, uni_app hun (fun q hq => ⟨n0, hn0, by rw [List.mem_singleton.1 hq]; exact ho⟩), fun q hq => (List.mem_append.1 hq).elim (hsh q) (fun e => by rw [List.mem_singleton.1 e]; exact hos1)⟩, rfl, rfl, rfl, rfl⟩ qI (.cons (t := 50) rfl <| za _) (.cons (t := 1) rfl <| .cons (t := 5) rfl <| .cons (t := 7) rfl <| .cons (t := 13) rfl <| za _) qD qD qF
  ·try simp only [dq] at h51
   exact absurd hms jO
end Cv
