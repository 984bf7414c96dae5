/-
  The walks: the law on what is known.
-/
import Derived.Test.YtahkbpiinbepcaaGreatWb22
import Derived.Test.YtahkbpiinbepcaaGreatProg
import Derived.KernelRfl
set_option linter.unusedVariables false
set_option linter.unusedSimpArgs false
set_option linter.unusedSectionVars false
set_option maxHeartbeats 400000
set_option maxRecDepth 10000
namespace Cv
open Go Go.Proofs

theorem frkn_law {pa ba : Option Addr} {pn pc bn bc : Nat} {z : Int} {ps ls : List Int} (hzps : ∀ z ∈ ps, -9223372036854775808 ≤ z ∧ z ≤ 9223372036854775807) (hzb : -9223372036854775808 ≤ z ∧ z ≤ 9223372036854775807) (hpn : pn ≤ 4611686018427387904) (hbn : bn ≤ 4611686018427387904) : Spec Tryz.prog 11 [.slice pa pn pc, .slice ba bn bc, .int .i64 z] [rsl 1 pa pn pc (ps.map e3), rsl 1 ba bn bc (ls.map e3)] [] (fun v D' M' => v = .bool true ∧ D' = [] ∧ M' = []) := by
 refine zH (n := 99) Tryz.func11 ?_
 intro σ D M
 refine z6 (z8 (za rfl rfl (z7 (z4 (z6 (z6 (z8 (y4 rfl (evs.nil) qD qS (awake22_spec) jF ?_))))))))
 refine yP rfl rfl (z7 (z4 (yK rfl rfl ?_)))
 refine zo (z4 (z6 (z8 (z5 rfl rfl (z5 rfl rfl (zz rfl (ev2 rfl rfl) qD qS (stock_spec (ps := ps) (ls := ls) hzps hbn hpn) ?_))))))
 rintro _ _ _ ⟨sa, sb, sn, sc, sd, rfl, hsn, rfl, rfl⟩
 refine zw qA qA ?_
 have hsh := stk_shf ps ls
 have hsl := stk_len ps ls
 have hun := stk_uni ps ls
 obtain ⟨os, hos⟩ : ∃ y, y = stk ps ls := ⟨_, rfl⟩
 rw [← hos] at hsn hsh hsl hun ⊢
 refine z5 rfl rfl (zW rfl rfl rfl (zW rfl rfl rfl (zS rfl ze26 (fun b7 => ?_))))
 refine zM ag26 rfl rfl qL qO qU qW ?_
 refine za rfl rfl (z7 (yg (A := cl b7 26 [.slice sa sn sc]) qP ?_))
 refine z4 (z6 (z8 (z5 rfl rfl (zz rfl (ev1 rfl) qD qS (made_spec hzb) ?_))))
 rintro _ _ _ ⟨ma, mb, ml, mc, ol, oc, rfl, hml, hol, rfl, rfl⟩
 refine zw qA qA ?_
 obtain ⟨k, hk⟩ : ∃ k, k = (z % 8).toNat := ⟨_, rfl⟩
 have hk8 : k < 8 := by omega
 rw [← hk] at hml hol ⊢
 have hz8 := md_len k
 have hzs := md_sz k
 have hzo := md_olen hk8
 have hz3 := md_3 hk8
 obtain ⟨Z, hZ⟩ : ∃ x, x = md k := ⟨_, rfl⟩
 rw [← hZ] at hml hol hz8 hzs hzo hz3 ⊢
 have hin := inC_len Z.1 ma ml mc
 have hp32 := Z.1.1.2
 obtain ⟨u, hu⟩ : ∃ y, y = nm k := ⟨_, rfl⟩
 have hu2 := u.2
 have hu3 := zU u
 have hok := uni_ok hun (fun _ : ID32 => false) (f := 41) hk8
 have hTK := fr_tk hun (fun _ : ID32 => false) (f := 41) hk8
 rw [← hu] at hok hTK
 have hfr := frO_t hok
 have hfe := frE_t hok
 have hlk := fr_lens os (fun _ : ID32 => false) 41 u
 rw [hfr] at hlk
 have hpd := uni_pd hun 41 k jO hk8
 rw [← hu] at hpd
 obtain ⟨R, hR⟩ : ∃ y, y = (pthF os (fun _ : ID32 => false) 41 u fs0).1 := ⟨_, rfl⟩
 rw [← hR] at hfr hlk hTK
 refine z5 rfl rfl (zW rfl rfl rfl (zW rfl rfl rfl (zS rfl ze54 (fun b9 => ?_))))
 refine zM ag54 rfl rfl qL qO qU qW ?_
 refine za rfl rfl (z7 (yg (A := cl b9 54 (inC Z.1 ma ml mc)) qP ?_))
 refine z4 (z6 (yh (fun K' D' M' => ∃ (b11 : Nat) (qa : Option Addr) (qn qc : Nat) (va : Option Addr) (vn vc : Nat) (ra : Option Addr) (rn rc : Nat), (R.ws.length = vn) ∧ K' = [(11, .pointer (some ⟨b11, 0, none⟩)), (12, .int .i64 0)] ∧ D' = [cl b11 78 [.slice qa qn qc, .slice va vn vc, .slice ra rn rc], rsl 34 va vn vc ((R.ws).map wnC)] ∧ M' = []) (M0 := []) (.cons (t := 7) rfl <| .cons (t := 9) rfl <| z9 _) qS ?_ ?_))
 ·skip
  refine ym (clsL [1, 1, 1, 2, 2, 1, 1, 1, 2, 2, 1]) qk ?_
  refine ze 0 rfl rfl (zu rfl ag26 rfl qN ?_)
  refine zd (ze 1 rfl rfl (L.mkIface rfl Tryz.underlying26 (by intro i q; cases q) rfl ?_))
  refine zd (ze 2 rfl rfl (zu rfl ag54 rfl qN ?_))
  refine zd (yQ (is := [3, 8]) qk jD (yp rfl ?_ <| yp rfl ?_ <| yR) )
  ·skip
   refine y4 rfl (ev1 rfl) qD qS (iname_spec (l := Z.2.1) (p := Z.1) jO jO) jF ?_
   rw [show inN Z.1 Z.2.1 = u from by rw [hu, hZ, nm_eq]]
   refine zm rfl qD ?_
   refine yQ (is := [4, 8]) qk jD (yp rfl ?_ <| yp rfl ?_ <| yR) 
   ·skip
    refine zz rfl (ev3 rfl rfl rfl) qD qS (of_spec (ft := 47) (cs := []) (d1 := rsl 34 sa sn sc (os.map obC)) (d2 := rsl 34 sa sn sc (os.map obC)) (os := os) (tb := (fun _ : ID32 => false)) (F := 41) (x := u) jO hsh (uni_ptd hun) (fun y => none22_spec) hpd) ?_
    rintro _ _ _ ⟨qa, qn, qc, va, vn, vc, ra, rn, rc, rfl, hp_, hw_, hr_, rfl, rfl⟩
    refine zw qA qA ?_
    rw [hfr] at hp_ hw_ hr_ ⊢
    rw [hfe]
    refine zm rfl qD ?_
    refine ze 5 rfl rfl (z5 rfl rfl (zd (ze 6 rfl rfl (zW rfl rfl rfl (zd (ze 7 rfl rfl (zW rfl rfl rfl (zd (zr 8 rfl (zS rfl ze78 (fun b11 => ?_)))))))))))
    refine zm rfl qD ?_
    refine zr 9 rfl (zM ag78 rfl rfl qL qO qU qW ?_)
    refine zm rfl qD ?_
    refine ze 10 rfl rfl (za rfl rfl (zd (y1 qk ?_)))
    refine yg (A := cl b11 78 [.slice qa qn qc, .slice va vn vc, .slice ra rn rc]) qP ?_
    exact z4 (zE ⟨_, _, _, _, _, _, _, _, _, _, hw_, rfl, rfl, rfl⟩ (.cons (t := 11) rfl <| .cons (t := 12) rfl <| z9 _) (.cons (t := 7) rfl <| .cons (t := 9) rfl <| z9 _) qD qD qF)
   ·skip
    refine zS rfl ze78 (fun b11 => ?_)
    refine zm rfl qD ?_
    refine zr 4 rfl (zz rfl (ev3 rfl rfl rfl) qD qS (of_spec (ft := 47) (cs := []) (d1 := rsl 34 sa sn sc (os.map obC)) (d2 := rsl 34 sa sn sc (os.map obC)) (os := os) (tb := (fun _ : ID32 => false)) (F := 41) (x := u) jO hsh (uni_ptd hun) (fun y => none22_spec) hpd) ?_)
    rintro _ _ _ ⟨qa, qn, qc, va, vn, vc, ra, rn, rc, rfl, hp_, hw_, hr_, rfl, rfl⟩
    refine zw qA qA ?_
    rw [hfr] at hp_ hw_ hr_ ⊢
    rw [hfe]
    refine zm rfl qD ?_
    refine ze 5 rfl rfl (z5 rfl rfl (zd (ze 6 rfl rfl (zW rfl rfl rfl (zd (ze 7 rfl rfl (zW rfl rfl rfl (zd (zr 9 rfl (zM ag78 rfl rfl qL qO qU qW ?_))))))))))
    refine zm rfl qD ?_
    refine ze 10 rfl rfl (za rfl rfl (zd (y1 qk ?_)))
    refine yg (A := cl b11 78 [.slice qa qn qc, .slice va vn vc, .slice ra rn rc]) qP ?_
    exact z4 (zE ⟨_, _, _, _, _, _, _, _, _, _, hw_, rfl, rfl, rfl⟩ (.cons (t := 11) rfl <| .cons (t := 12) rfl <| z9 _) (.cons (t := 7) rfl <| .cons (t := 9) rfl <| z9 _) qD qD qF)
  ·skip
   refine zS rfl ze78 (fun b11 => ?_)
   refine zm rfl qD ?_
   refine zr 3 rfl (y4 rfl (ev1 rfl) qD qS (iname_spec (l := Z.2.1) (p := Z.1) jO jO) jF ?_)
   rw [show inN Z.1 Z.2.1 = u from by rw [hu, hZ, nm_eq]]
   refine zm rfl qD ?_
   refine zr 4 rfl (zz rfl (ev3 rfl rfl rfl) qD qS (of_spec (ft := 47) (cs := []) (d1 := rsl 34 sa sn sc (os.map obC)) (d2 := rsl 34 sa sn sc (os.map obC)) (os := os) (tb := (fun _ : ID32 => false)) (F := 41) (x := u) jO hsh (uni_ptd hun) (fun y => none22_spec) hpd) ?_)
   rintro _ _ _ ⟨qa, qn, qc, va, vn, vc, ra, rn, rc, rfl, hp_, hw_, hr_, rfl, rfl⟩
   refine zw qA qA ?_
   rw [hfr] at hp_ hw_ hr_ ⊢
   rw [hfe]
   refine zm rfl qD ?_
   refine ze 5 rfl rfl (z5 rfl rfl (zd (ze 6 rfl rfl (zW rfl rfl rfl (zd (ze 7 rfl rfl (zW rfl rfl rfl (zd (zr 9 rfl (zM ag78 rfl rfl qL qO qU qW ?_))))))))))
   refine zm rfl qD ?_
   refine ze 10 rfl rfl (za rfl rfl (zd (y1 qk ?_)))
   refine yg (A := cl b11 78 [.slice qa qn qc, .slice va vn vc, .slice ra rn rc]) qP ?_
   exact z4 (zE ⟨_, _, _, _, _, _, _, _, _, _, hw_, rfl, rfl, rfl⟩ (.cons (t := 11) rfl <| .cons (t := 12) rfl <| z9 _) (.cons (t := 7) rfl <| .cons (t := 9) rfl <| z9 _) qD qD qF)
 rintro _ _ _ ⟨b11, qa, qn, qc, va, vn, vc, ra, rn, rc, hw_, rfl, rfl, rfl⟩
 refine zB qA qA qA ?_
 refine z4 (z6 (z6 (z8 (z5 rfl rfl (L.neI rfl rfl rfl (z7 (z4 (yK rfl (decide_eq_false (fun q => q rfl)) ?_))))))))
 refine zo (z4 (z6 (z6 (z8 (zh rfl fo78_1 rfl ?_)))))
 refine zi rfl sc76 rfl qC ?_
 refine y7 rfl xg rfl (z5 rfl rfl (z7 (z4 (zt (zY (fun K' D' M' μ => ∃ (i : Nat), (i ≤ vn) ∧ K' = [(47, .int .i64 (i : Int))] ∧ D' = [] ∧ M' = [] ∧ μ = vn - i) (.cons (t := 7) rfl <| .cons (t := 9) rfl <| .cons (t := 45) rfl <| .cons (t := 46) rfl <| z9 _) (⟨0, Nat.zero_le _, rfl, rfl, rfl, rfl⟩) (.cons (t := 47) rfl <| z9 _) qD qS ?_)))))
 rintro K1 D1 M1 m1 ⟨i, hi, rfl, rfl, rfl, rfl⟩
 refine zB qA qA qA ?_
 refine z6 (z8 (zV rfl rfl rfl (z7 (z4 (z6 (zq rfl (fun h48 => ?_) (fun h48 => ?_)))))))
 ·try simp only [dq] at h48
  refine zo (z4 (z6 (zt (z6 ?_))))
  have hgi : R.ws[i]? = some (gd R.ws i) := zG jO
  obtain ⟨w, hw_2⟩ : ∃ z, z = gd R.ws i := ⟨_, rfl⟩
  rw [← hw_2] at hgi
  clear hw_2
  have hgr : (R.ws.map wnC)[i]? = some (wnC w) := zN hgi
  have hw33 := wnC_len w
  have hw32 := w.2.1.2
  have htk := hTK w (List.mem_of_getElem? hgi)
  refine z8 (yJ (i := i) rfl xg sz90 rfl rfl qM jR qG (fun b49 o49 => ?_))
  refine zu rfl ag90 rfl (x9 qM hw33) ?_
  refine zS rfl ze90 (fun b14 => ?_)
  refine zM ag90 rfl rfl qL qO qU qW ?_
  refine z7 (yg (A := cl b14 90 (wnC w)) qP ?_)
  refine z4 (z6 (yn qk qk (zh rfl fo90_1 rfl ?_)))
  refine zu rfl zy rfl (CellsN.ofF qM (at_w1 w)) ?_
  refine zu rfl ag54 rfl qN ?_
  refine y4 rfl (ev1 rfl) qD qS (iname_spec (l := Z.2.1) (p := Z.1) jO jO) jF ?_
  rw [show inN Z.1 Z.2.1 = u from by rw [hu, hZ, nm_eq]]
  refine L.eqlArrI qk rfl xb yA sc5 rfl rfl qL qL ?_
  refine za rfl rfl (yj (z4 (z6 (z6 (z8 (zh rfl fo26_0 rfl ?_))))))
  refine zi rfl sc24 rfl qC ?_
  refine y7 rfl yV rfl (z5 rfl rfl (z7 (z4 (zt (zY (fun K' D' M' μ => ∃ (j : Nat) (b : Bool), (j ≤ sn ∧ (b = true ↔ TldI os j w.2.1 u)) ∧ K' = [(59, .int .i64 (j : Int)), (15, .bool b)] ∧ D' = [] ∧ M' = [] ∧ μ = sn - j) (.cons (t := 7) rfl <| .cons (t := 9) rfl <| .cons (t := 14) rfl <| .cons (t := 45) rfl <| .cons (t := 46) rfl <| .cons (t := 47) rfl <| .cons (t := 57) rfl <| .cons (t := 58) rfl <| z9 _) (⟨0, decide (w.2.1.1 = u.1), ⟨Nat.zero_le _, TldI.z⟩, rfl, rfl, rfl, rfl⟩) (.cons (t := 59) rfl <| .cons (t := 15) rfl <| z9 _) qD qS ?_)))))
  rintro K1 D1 M1 m1 ⟨j, b, ⟨hj, hb⟩, rfl, rfl, rfl, rfl⟩
  refine zB qA qA qA ?_
  refine z6 (z8 (zV rfl rfl rfl (z7 (z4 (z6 (zq rfl (fun h60 => ?_) (fun h60 => ?_)))))))
  ·try simp only [dq] at h60
   refine zo (z4 (z6 (zt (z6 ?_))))
   have hgo : os[j]? = some (gd os j) := zG jO
   obtain ⟨o, ho_⟩ : ∃ z, z = gd os j := ⟨_, rfl⟩
   rw [← ho_] at hgo
   clear ho_
   have hgr2 : (os.map obC)[j]? = some (obC o) := zN hgo
   have ho33 := obC_len o
   have ho32 := o.2.1.2
   have hos2 := hsh o (List.mem_of_getElem? hgo)
   refine z8 (yJ (i := j) rfl yV sz45 rfl rfl qM jR qG (fun b61 o61 => ?_))
   refine zu rfl ag45 rfl (x9 qM ho33) ?_
   refine zS rfl ze45 (fun b17 => ?_)
   refine zM ag45 rfl rfl qL qO qU qW ?_
   refine z7 (yg (A := cl b17 45 (obC o)) qP ?_)
   refine z4 (z6 (z8 (za rfl rfl (z7 (z4 (zt (zY (fun K' D' M' μ => ∃ (p : Nat) (b3 : Bool), (p ≤ o.2.2.length ∧ (b3 = true ↔ (TldI os j w.2.1 u ∨ tldT o.2.2 w.2.1.1 p))) ∧ K' = [(18, .int .i64 (p : Int)), (15, .bool b3)] ∧ D' = [] ∧ M' = [] ∧ μ = o.2.2.length - p) (.cons (t := 7) rfl <| .cons (t := 9) rfl <| .cons (t := 14) rfl <| .cons (t := 17) rfl <| .cons (t := 45) rfl <| .cons (t := 46) rfl <| .cons (t := 47) rfl <| .cons (t := 57) rfl <| .cons (t := 58) rfl <| .cons (t := 59) rfl <| z9 _) (⟨0, b, ⟨Nat.zero_le _, hb.trans ⟨.inl, fun q => q.resolve_right tld_0⟩⟩, rfl, rfl, rfl, rfl⟩) (.cons (t := 18) rfl <| .cons (t := 15) rfl <| z9 _) qD qS ?_)))))))
   rintro K1 D1 M1 m1 ⟨p, b3, ⟨hp, hb3⟩, rfl, rfl, rfl, rfl⟩
   refine zB qA qA qA ?_
   refine z6 (z6 (z8 (z5 rfl rfl (zD rfl rfl rfl jO ?_))))
   refine zh rfl fo45_2 rfl ?_
   refine zi rfl sc9 rfl qC ?_
   refine x8 rfl yq rfl (L.leI rfl rfl rfl (z7 (z4 (zq rfl (fun h68 => ?_) (fun h68 => ?_)))))
   ·try simp only [dq] at h68
    refine zo (z4 (z6 (zt (yh (fun K' D' M' => ∃ (b4 : Bool), (b4 = true ↔ (TldI os j w.2.1 u ∨ tldT o.2.2 w.2.1.1 (p + 1))) ∧ K' = [(15, .bool b4)] ∧ D' = [] ∧ M' = []) (M0 := []) (.cons (t := 7) rfl <| .cons (t := 9) rfl <| .cons (t := 14) rfl <| .cons (t := 17) rfl <| .cons (t := 18) rfl <| .cons (t := 45) rfl <| .cons (t := 46) rfl <| .cons (t := 47) rfl <| .cons (t := 57) rfl <| .cons (t := 58) rfl <| .cons (t := 59) rfl <| z9 _) qS ?_ ?_))))
    ·skip
     rcases b3 with _ | _
     ·skip
      refine yn qk qk (z5 rfl rfl (z5 rfl rfl (zv (t := 72) rfl (show _ = Value.bool false from rfl) ?_)))
      refine zf (dj := 72) rfl rfl rfl (zh rfl fo45_2 rfl ?_)
      refine zf (dj := 72) rfl rfl rfl (zi rfl sc9 rfl qC ?_)
      refine zf (dj := 72) rfl rfl rfl (z5 rfl rfl (zf (dj := 72) rfl rfl rfl (z5 rfl rfl (zf (dj := 72) rfl rfl rfl (zD rfl rfl rfl jO ?_)))))
      refine zf (dj := 72) rfl rfl rfl (L.sliceS (a := p) (b := p + 32) rfl yq rfl ⟨_, (by first | rfl | (congr 2; omega))⟩ ⟨_, (by first | rfl | (congr 2; omega))⟩ qI qI ?_)
      refine zf (dj := 72) rfl rfl rfl (zh rfl fo90_1 rfl ?_)
      refine zf (dj := 72) rfl rfl rfl (zu rfl zy rfl (CellsN.ofF qM (at_w1 w)) ?_)
      refine zf (dj := 72) rfl rfl rfl (y4 rfl (ev1 rfl) qD qS (obytes_spec (l := w.2.1.1) hw32) jF ?_)
      refine zf (dj := 72) rfl rfl rfl (L.eqS rfl rfl rfl ?_)
      exact ye rfl rfl rfl (za rfl rfl (yj (z4 (zE ⟨_, tk_f hb3 jO, rfl, rfl, rfl⟩ (.cons (t := 15) rfl <| z9 _) (.cons (t := 7) rfl <| .cons (t := 9) rfl <| .cons (t := 14) rfl <| .cons (t := 17) rfl <| .cons (t := 18) rfl <| .cons (t := 45) rfl <| .cons (t := 46) rfl <| .cons (t := 47) rfl <| .cons (t := 57) rfl <| .cons (t := 58) rfl <| .cons (t := 59) rfl <| z9 _) qD qD qF))))
     ·skip
      refine yn qk qk (z5 rfl rfl (z5 rfl rfl (zv (t := 72) rfl (show _ = Value.bool true from rfl) ?_)))
      exact zg (dj := 72) (c := true) rfl rfl rfl rfl rfl jD (zg (dj := 72) (c := true) rfl rfl rfl rfl rfl jD (zg (dj := 72) (c := true) rfl rfl rfl rfl rfl jD (zg (dj := 72) (c := true) rfl rfl rfl rfl rfl jD (zg (dj := 72) (c := true) rfl rfl rfl rfl rfl jD (zg (dj := 72) (c := true) rfl rfl rfl rfl rfl jD (zg (dj := 72) (c := true) rfl rfl rfl rfl rfl jD (zg (dj := 72) (c := true) rfl rfl rfl rfl rfl jD (zg (dj := 72) (c := true) rfl rfl rfl rfl rfl jD (zg (dj := 72) (c := true) rfl rfl rfl rfl rfl jD (yf rfl rfl rfl (za rfl rfl (yj (z4 (zE ⟨_, tk_t hb3 jO, rfl, rfl, rfl⟩ (.cons (t := 15) rfl <| z9 _) (.cons (t := 7) rfl <| .cons (t := 9) rfl <| .cons (t := 14) rfl <| .cons (t := 17) rfl <| .cons (t := 18) rfl <| .cons (t := 45) rfl <| .cons (t := 46) rfl <| .cons (t := 47) rfl <| .cons (t := 57) rfl <| .cons (t := 58) rfl <| .cons (t := 59) rfl <| z9 _) qD qD qF))))))))))))))
    rintro _ _ _ ⟨b4, hb4, rfl, rfl, rfl⟩
    refine zB qA qA qA ?_
    refine zL (z4 (z8 (z5 rfl rfl (zD rfl rfl rfl jO ?_))))
    exact za rfl rfl (z7 (z4 (zO ⟨p + 1, b4, ⟨by omega, hb4⟩, rfl, rfl, rfl, rfl⟩ qI (.cons (t := 18) rfl <| .cons (t := 15) rfl <| z9 _) (.cons (t := 7) rfl <| .cons (t := 9) rfl <| .cons (t := 14) rfl <| .cons (t := 17) rfl <| .cons (t := 45) rfl <| .cons (t := 46) rfl <| .cons (t := 47) rfl <| .cons (t := 57) rfl <| .cons (t := 58) rfl <| .cons (t := 59) rfl <| z9 _) qD qD qF)))
   ·try simp only [dq] at h68
    refine zQ (zp (zp (zR (zL (z4 (z8 (zD rfl rfl rfl jO ?_)))))))
    exact z5 rfl rfl (z7 (z4 (zO ⟨j + 1, b3, ⟨by omega, hb3.trans (TldI.s hgo jO hp).symm⟩, rfl, rfl, rfl, rfl⟩ qI (.cons (t := 59) rfl <| .cons (t := 15) rfl <| z9 _) (.cons (t := 7) rfl <| .cons (t := 9) rfl <| .cons (t := 14) rfl <| .cons (t := 45) rfl <| .cons (t := 46) rfl <| .cons (t := 47) rfl <| .cons (t := 57) rfl <| .cons (t := 58) rfl <| z9 _) qD qD qF)))
  ·try simp only [dq] at h60
   obtain rfl : sn = j := by omega
   obtain rfl : b = true := hb.2 (.end_ htk.1 jO)
   refine zQ (zp (zp (zR (z4 (z6 (z8 (zu rfl ag26 rfl qN ?_)))))))
   refine zh rfl fo90_1 rfl ?_
   refine zu rfl zy rfl (CellsN.ofF qM (at_w1 w)) ?_
   refine y4 rfl (ev2 rfl rfl) qD qS (get_spec (os := os) (x := w.2.1) jO) jF ?_
   obtain ⟨q, hq⟩ : ∃ q, q = getO os w.2.1 := ⟨_, rfl⟩
   rw [← hq]
   have hq33 := obC_len q
   refine z5 rfl rfl (zW rfl rfl rfl (zW rfl rfl rfl (zS rfl ze45 (fun b19 => ?_))))
   refine zM ag45 rfl rfl qL qO qU qW ?_
   refine za rfl rfl (z7 (z4 (z6 (z8 (z5 rfl rfl (yP rfl rfl (z5 rfl rfl (zv (t := 94) rfl (show _ = Value.bool false from congrArg Value.bool (rfl)) ?_))))))))
   refine zf (dj := 94) rfl rfl rfl (z5 rfl rfl (zf (dj := 94) rfl rfl rfl (yv rfl rfl rfl (ye rfl rfl rfl (z7 (z4 (yK rfl (decide_eq_false (by rw [getE_miss htk.2]; decide)) ?_)))))))
   refine zo (zL (z4 (z8 (zD rfl rfl rfl jO ?_))))
   exact z5 rfl rfl (z7 (z4 (zO ⟨i + 1, jO, rfl, rfl, rfl, rfl⟩ qI (.cons (t := 47) rfl <| z9 _) (.cons (t := 7) rfl <| .cons (t := 9) rfl <| .cons (t := 45) rfl <| .cons (t := 46) rfl <| z9 _) qD qD qF)))
 ·try simp only [dq] at h48
  obtain rfl : vn = i := by omega
  exact zQ (zp (zp (zR (z4 (z6 (z8 (za rfl rfl (z7 (z4 (zj (zC rfl rfl ⟨rfl, rfl, rfl⟩ qD qF)))))))))))
end Cv
