/-
  The walks: the law on fronts.
-/
import Derived.Test.YtahkbpiinbepcaaGreatTb22
import Derived.Test.YtahkbpiinbepcaaGreatProg
import Derived.KernelRfl
set_option linter.unusedVariables false
set_option linter.unusedSimpArgs false
set_option linter.unusedSectionVars false
set_option maxHeartbeats 400000
set_option maxRecDepth 10000
namespace Cv
open Go Go.Proofs

theorem frof_law {pa ba ta : Option Addr} {pn pc bn bc tn tc : Nat} {z : Int} {ps ls th : List Int} (hzps : ∀ z ∈ ps, -9223372036854775808 ≤ z ∧ z ≤ 9223372036854775807) (hzth : ∀ z ∈ th, -9223372036854775808 ≤ z ∧ z ≤ 9223372036854775807) (hzb : -9223372036854775808 ≤ z ∧ z ≤ 9223372036854775807) (hpn : pn ≤ 4611686018427387904) (hbn : bn ≤ 4611686018427387904) (htn : tn ≤ 4611686018427387904) : Spec Tryz.prog 8 [.slice pa pn pc, .slice ba bn bc, .slice ta tn tc, .int .i64 z] [rsl 1 pa pn pc (ps.map e3), rsl 1 ba bn bc (ls.map e3), rsl 1 ta tn tc (th.map e3)] [] (fun v D' M' => v = .bool true ∧ D' = [] ∧ M' = []) := by
 refine zI (n := 78) Tryz.func8 ?_
 intro σ D M
 refine yC (a := ta) (len := tn) (cap := tc) (rows := th.map e3) qM (fun htl htc => ?_)
 rw [List.length_map] at htl
 refine z6 (z8 (za rfl rfl (z7 (z4 (z6 (z6 (z8 (zU rfl (evs.nil) qD qS (awake22_spec) jF ?_))))))))
 refine yY rfl rfl (z7 (z4 (yR rfl rfl ?_)))
 refine zp (z4 (z6 (z8 (z5 rfl rfl (z5 rfl rfl (zA rfl (ev2 rfl rfl) qD qS (stock_spec (ps := ps) (ls := ls) hzps hbn hpn) ?_))))))
 rintro _ _ _ ⟨sa, sb, sn, sc, sd, rfl, hsn, rfl, rfl⟩
 refine zx qA qA ?_
 have hsh := stk_shf ps ls
 have hsl := stk_len ps ls
 have hun := stk_uni ps ls
 obtain ⟨os, hos⟩ : ∃ y, y = stk ps ls := ⟨_, rfl⟩
 rw [← hos] at hsn hsh hsl hun ⊢
 refine z5 rfl rfl (zK rfl rfl rfl (zK rfl rfl rfl (zL rfl ze26 (fun b9 => ?_))))
 refine zz ag26 rfl rfl qL qO qU qW ?_
 refine za rfl rfl (z7 (y6 (A := cl b9 26 [.slice sa sn sc]) qP ?_))
 refine z4 (z6 (z8 (zZ rfl bs31 jD (zC (out := []) rfl) (fun b27 => ?_))))
 refine yK (len := 0) qP (rows := (((th.take 0).map nz).map (·.1)).map ys) (sz := 1) (by rfl) rfl (by simp) ?_
 refine zL rfl ze31 (fun b11 => ?_)
 refine y4 sc31 rfl rfl rfl qU qE ?_
 refine z7 (z4 (z6 (z6 (z8 (za rfl rfl (z7 (z4 (zu (zY (fun K' D' M' μ => ∃ (i nc : Nat) (na : Option Addr), (i ≤ tn ∧ i ≤ 4) ∧ K' = [(12, .int .i64 (i : Int))] ∧ D' = [] ∧ M' = [cl b11 31 [.slice na i nc], own 1 9 na i nc (((((th.take i).map nz)).map (·.1)).map ys)] ∧ μ = tn - i) (.cons (t := 2) rfl <| .cons (t := 3) rfl <| .cons (t := 9) rfl <| .cons (t := 10) rfl <| .cons (t := 11) rfl <| z9 _) (⟨0, 0, _, ⟨Nat.zero_le _, Nat.zero_le _⟩, rfl, rfl, rfl, rfl⟩) (.cons (t := 12) rfl <| z9 _) qD qS ?_)))))))))
 rintro K1 D1 M1 m1 ⟨i, nc, na, ⟨hi, hi4⟩, rfl, rfl, rfl, rfl⟩
 refine zD qA qA qA ?_
 refine z6 (z6 (yj (fun K' D' M' => ∃ (w : Bool), (w = true ↔ (i < tn ∧ i < 4)) ∧ K' = [(35, .bool w)] ∧ D' = [] ∧ M' = []) (M0 := []) (.cons (t := 2) rfl <| .cons (t := 3) rfl <| .cons (t := 9) rfl <| .cons (t := 10) rfl <| .cons (t := 11) rfl <| .cons (t := 12) rfl <| z9 _) qS ?_ ?_))
 ·skip
  refine z8 (z5 rfl rfl (z5 rfl rfl (y2 rfl xw rfl (zN rfl rfl rfl (z5 rfl rfl (yF (t := 32) rfl (fun h1 => ?_) (fun h1 => ?_)))))))
  ·try simp only [dq] at h1
   exact zf (dj := 32) rfl rfl rfl (z5 rfl rfl (zf (dj := 32) rfl rfl rfl (zN rfl rfl rfl (yg rfl rfl rfl (z7 (z4 (zB ⟨_, (by simp_all <;> omega), rfl, rfl, rfl⟩ (.cons (t := 35) rfl <| z9 _) (.cons (t := 2) rfl <| .cons (t := 3) rfl <| .cons (t := 9) rfl <| .cons (t := 10) rfl <| .cons (t := 11) rfl <| .cons (t := 12) rfl <| z9 _) qD qD qF)))))))
  ·try simp only [dq] at h1
   exact zh (dj := 32) (c := false) rfl rfl rfl rfl rfl jD (zh (dj := 32) (c := false) rfl rfl rfl rfl rfl jD (y9 rfl rfl rfl (z7 (z4 (zB ⟨_, (by simp_all <;> omega), rfl, rfl, rfl⟩ (.cons (t := 35) rfl <| z9 _) (.cons (t := 2) rfl <| .cons (t := 3) rfl <| .cons (t := 9) rfl <| .cons (t := 10) rfl <| .cons (t := 11) rfl <| .cons (t := 12) rfl <| z9 _) qD qD qF)))))
 rintro _ _ _ ⟨w, hw, rfl, rfl, rfl⟩
 refine zD qA qA qA ?_
 refine z4 (zq rfl (fun h35 => ?_) (fun h35 => ?_))
 ·try simp only [dq] at h35
  have hwt := hw.1 h35
  refine zp (z4 (z6 (zu (z6 ?_))))
  have hgz : th[i]? = some (gd th i) := zJ jO
  obtain ⟨y, hy_⟩ : ∃ z, z = gd th i := ⟨_, rfl⟩
  rw [← hy_] at hgz
  clear hy_
  have hrz : (th.map e3)[i]? = some (e3 y) := zT hgz
  have hbz := hzth y (List.mem_of_getElem? hgz)
  refine z8 (z5 rfl rfl (z5 rfl rfl (yE (i := i) rfl xw sz3 rfl rfl qM jR qG (fun b41 o41 => ?_))))
  refine zi rfl sc3 rfl qC ?_
  refine zA rfl (ev1 rfl) qD qS (made_spec hbz) ?_
  rintro _ _ _ ⟨xa, xb, xl, xc, xo, xd, rfl, hxl, hxo, rfl, rfl⟩
  refine zx qA qA ?_
  have hx8 := md_len (y % 8).toNat
  have hxs := md_sz (y % 8).toNat
  obtain ⟨X, hX⟩ : ∃ x, x = md (y % 8).toNat := ⟨_, rfl⟩
  rw [← hX] at hxl hxo hx8 hxs ⊢
  have hinx := inC_len X.1 xa xl xc
  have hpx := X.1.1.2
  obtain ⟨nn, hn_⟩ : ∃ x, x = inN X.1 X.2.1 := ⟨_, rfl⟩
  have hnz : nz y = nn := by rw [hn_, hX]; rfl
  have hnn := nn.2
  have hn3 := y1 nn
  refine z5 rfl rfl (zK rfl rfl rfl (zK rfl rfl rfl (zL rfl ze54 (fun b13 => ?_))))
  refine zz ag54 rfl rfl qL qO qU qW ?_
  refine za rfl rfl (z7 (y6 (A := cl b13 54 (inC X.1 xa xl xc)) qP ?_))
  refine z4 (yj (fun K' D' M' => ∃ (na2 : Option Addr) (nc2 : Nat), (True) ∧ K' = [] ∧ D' = [] ∧ M' = [cl b11 31 [.slice na2 (i + 1) nc2], own 1 9 na2 (i + 1) nc2 ((((th.take i).map nz).map (·.1)).map ys ++ [[S nn.1]])]) (M0 := [cl b11 31 [.slice na i nc], own 1 9 na i nc (((((th.take i).map nz)).map (·.1)).map ys)]) (.cons (t := 2) rfl <| .cons (t := 3) rfl <| .cons (t := 9) rfl <| .cons (t := 10) rfl <| .cons (t := 11) rfl <| .cons (t := 12) rfl <| z9 _) qS ?_ ?_)
  ·skip
   refine yq (clsL [2, 1, 2, 2, 2, 2, 2]) qk ?_
   refine ze 1 rfl rfl (zr rfl ag54 rfl qN ?_)
   refine zd (yL (is := [0, 2]) qk jD (y7 rfl ?_ <| y7 rfl ?_ <| yM) )
   ·skip
    refine zi rfl sc31 rfl qC ?_
    refine zj rfl qD ?_
    refine zo 2 rfl (zU rfl (ev1 rfl) qD qS (iname_spec (l := X.2.1) (p := X.1) jO jO) jF ?_)
    rw [← hn_]
    refine zj rfl qD ?_
    refine zo 3 rfl (zU rfl (ev1 rfl) qD qS (obytes_spec (l := nn.1) hnn) jF ?_)
    refine zj rfl qD ?_
    refine zo 4 rfl (zZ rfl bs31 jD (zv rfl rfl rfl <| zC (out := []) rfl) (fun b50 => ?_))
    refine zj rfl qD ?_
    refine zo 5 rfl (yp rfl yD el9 rfl rfl qP qM rfl qO1 qI qI (fun a51 c51 => ?_))
    refine zj rfl qD ?_
    refine zo 6 rfl (y4 sc31 rfl rfl rfl qU qE ?_)
    refine zj rfl qD ?_
    refine zX qk ?_
    exact z4 (zB ⟨_, _, trivial, rfl, rfl, rfl⟩ (z9 _) (.cons (t := 2) rfl <| .cons (t := 3) rfl <| .cons (t := 9) rfl <| .cons (t := 10) rfl <| .cons (t := 11) rfl <| .cons (t := 12) rfl <| z9 _) qD qD qF)
   ·skip
    refine zU rfl (ev1 rfl) qD qS (iname_spec (l := X.2.1) (p := X.1) jO jO) jF ?_
    rw [← hn_]
    refine zj rfl qD ?_
    refine yL (is := [0, 3]) qk jD (y7 rfl ?_ <| y7 rfl ?_ <| yM) 
    ·skip
     refine zi rfl sc31 rfl qC ?_
     refine zj rfl qD ?_
     refine zo 3 rfl (zU rfl (ev1 rfl) qD qS (obytes_spec (l := nn.1) hnn) jF ?_)
     refine zj rfl qD ?_
     refine zo 4 rfl (zZ rfl bs31 jD (zv rfl rfl rfl <| zC (out := []) rfl) (fun b50 => ?_))
     refine zj rfl qD ?_
     refine zo 5 rfl (yp rfl yD el9 rfl rfl qP qM rfl qO1 qI qI (fun a51 c51 => ?_))
     refine zj rfl qD ?_
     refine zo 6 rfl (y4 sc31 rfl rfl rfl qU qE ?_)
     refine zj rfl qD ?_
     refine zX qk ?_
     exact z4 (zB ⟨_, _, trivial, rfl, rfl, rfl⟩ (z9 _) (.cons (t := 2) rfl <| .cons (t := 3) rfl <| .cons (t := 9) rfl <| .cons (t := 10) rfl <| .cons (t := 11) rfl <| .cons (t := 12) rfl <| z9 _) qD qD qF)
    ·skip
     refine zU rfl (ev1 rfl) qD qS (obytes_spec (l := nn.1) hnn) jF ?_
     refine zj rfl qD ?_
     refine yL (is := [0, 4]) qk jD (y7 rfl ?_ <| y7 rfl ?_ <| yM) 
     ·skip
      refine zi rfl sc31 rfl qC ?_
      refine zj rfl qD ?_
      refine zo 4 rfl (zZ rfl bs31 jD (zv rfl rfl rfl <| zC (out := []) rfl) (fun b50 => ?_))
      refine zj rfl qD ?_
      refine zo 5 rfl (yp rfl yD el9 rfl rfl qP qM rfl qO1 qI qI (fun a51 c51 => ?_))
      refine zj rfl qD ?_
      refine zo 6 rfl (y4 sc31 rfl rfl rfl qU qE ?_)
      refine zj rfl qD ?_
      refine zX qk ?_
      exact z4 (zB ⟨_, _, trivial, rfl, rfl, rfl⟩ (z9 _) (.cons (t := 2) rfl <| .cons (t := 3) rfl <| .cons (t := 9) rfl <| .cons (t := 10) rfl <| .cons (t := 11) rfl <| .cons (t := 12) rfl <| z9 _) qD qD qF)
     ·skip
      refine zZ rfl bs31 jD (zv rfl rfl rfl <| zC (out := []) rfl) (fun b50 => ?_)
      refine zj rfl qD ?_
      refine zo 0 rfl (zi rfl sc31 rfl qC ?_)
      refine zj rfl qD ?_
      refine zo 5 rfl (yp rfl yD el9 rfl rfl qP qM rfl qO1 qI qI (fun a51 c51 => ?_))
      refine zj rfl qD ?_
      refine zo 6 rfl (y4 sc31 rfl rfl rfl qU qE ?_)
      refine zj rfl qD ?_
      refine zX qk ?_
      exact z4 (zB ⟨_, _, trivial, rfl, rfl, rfl⟩ (z9 _) (.cons (t := 2) rfl <| .cons (t := 3) rfl <| .cons (t := 9) rfl <| .cons (t := 10) rfl <| .cons (t := 11) rfl <| .cons (t := 12) rfl <| z9 _) qD qD qF)
  rintro _ _ _ ⟨na2, nc2, hT_, rfl, rfl, rfl⟩
  refine zD qA qA qA ?_
  refine zM (z4 (z8 (z5 rfl rfl (zG rfl rfl rfl jO ?_))))
  refine za rfl rfl (z7 (z4 (yf _ ((((th.take (i + 1)).map nz).map (·.1)).map ys) qP (by rw [← take_snoc hgz, List.map_append, List.map_append, List.map_append, ← hnz]; rfl) ?_)))
  exact zS ⟨i + 1, _, _, ⟨by omega, by omega⟩, rfl, rfl, rfl, rfl⟩ qI (.cons (t := 12) rfl <| z9 _) (.cons (t := 2) rfl <| .cons (t := 3) rfl <| .cons (t := 9) rfl <| .cons (t := 10) rfl <| .cons (t := 11) rfl <| z9 _) qD qD qF
 ·try simp only [dq] at h35
  have hwf : ¬ (i < tn ∧ i < 4) := fun e => by have := hw.2 e; rw [h35] at this; cases this
  clear hw
  refine yw (rows := ((((th.take i).map nz).map (·.1)).map ys)) qP ?_
  refine y6 (A := cl b11 31 [.slice na i nc]) qP ?_
  refine zO (zt (zt (zQ (z4 (z6 (z8 (z5 rfl rfl (zA rfl (ev1 rfl) qD qS (made_spec hzb) ?_))))))))
  rintro _ _ _ ⟨ma, mb, ml, mc, ol, oc, rfl, hml, hol, rfl, rfl⟩
  refine zx qA qA ?_
  obtain ⟨k, hk⟩ : ∃ k, k = (z % 8).toNat := ⟨_, rfl⟩
  have hk8 : k < 8 := by omega
  rw [← hk] at hml hol ⊢
  have hz8 := md_len k
  have hzs := md_sz k
  have hzo := md_olen hk8
  have hz3 := md_3 hk8
  obtain ⟨Z, hZ⟩ : ∃ x, x = md k := ⟨_, rfl⟩
  rw [← hZ] at hml hol hz8 hzs hzo hz3 ⊢
  have hin := inC_len Z.1 ma ml mc
  have hp32 := Z.1.1.2
  obtain ⟨w, hw⟩ : ∃ y, y = nm k := ⟨_, rfl⟩
  have hw2 := w.2
  have hw3 := y1 w
  obtain ⟨tl, htl2⟩ : ∃ y, y = ((th.take i).map nz).map (·.1) := ⟨_, rfl⟩
  rw [← htl2]
  have hok := uni_ok hun (fun y : ID32 => decide (y.1 ∈ tl)) (f := 41) hk8
  rw [← hw] at hok
  have hfr := frO_t hok
  have hfe := frE_t hok
  have hwk := fr_wok os (fun y : ID32 => decide (y.1 ∈ tl)) 41 w
  have hlk := fr_lens os (fun y : ID32 => decide (y.1 ∈ tl)) 41 w
  rw [hfr] at hwk hlk
  have hpd := uni_pd hun 41 k jO hk8
  rw [← hw] at hpd
  have hrp : rpF os (fun y : ID32 => decide (y.1 ∈ tl)) 41 w fs0 false = ((pthF os (fun y : ID32 => decide (y.1 ∈ tl)) 41 w fs0).1, false) := by rw [rp_go, hok]; rfl
  obtain ⟨R, hR⟩ : ∃ y, y = (pthF os (fun y : ID32 => decide (y.1 ∈ tl)) 41 w fs0).1 := ⟨_, rfl⟩
  rw [← hR] at hfr hwk hlk hrp
  refine z5 rfl rfl (zK rfl rfl rfl (zK rfl rfl rfl (zL rfl ze54 (fun b15 => ?_))))
  refine zz ag54 rfl rfl qL qO qU qW ?_
  refine za rfl rfl (z7 (y6 (A := cl b15 54 (inC Z.1 ma ml mc)) qP ?_))
  refine z4 (z6 (yj (fun K' D' M' => ∃ (b17 : Nat) (qa : Option Addr) (qn qc : Nat) (va : Option Addr) (vn vc : Nat) (ra : Option Addr) (rn rc : Nat), (R.ps.length = qn ∧ R.ws.length = vn ∧ R.rs.length = rn) ∧ K' = [(17, .pointer (some ⟨b17, 0, none⟩)), (18, .int .i64 0)] ∧ D' = [cl b17 78 [.slice qa qn qc, .slice va vn vc, .slice ra rn rc], rsl 32 qa qn qc ((R.ps).map iC), rsl 34 va vn vc ((R.ws).map wnC), rsl 32 ra rn rc ((R.rs).map iC)] ∧ M' = []) (M0 := []) (.cons (t := 10) rfl <| .cons (t := 11) rfl <| .cons (t := 15) rfl <| z9 _) qS ?_ ?_))
  ·skip
   refine yq (clsL [1, 1, 2, 1, 2, 2, 1, 1, 1, 2, 2, 1]) qk ?_
   refine ze 0 rfl rfl (zr rfl ag26 rfl qN ?_)
   refine zd (ze 1 rfl rfl (L.mkIface rfl Tryz.underlying26 (by intro i q; cases q) rfl ?_))
   refine zd (ze 3 rfl rfl (zr rfl ag54 rfl qN ?_))
   refine zd (yL (is := [2, 4, 9]) qk jD (y7 rfl ?_ <| y7 rfl ?_ <| y7 rfl ?_ <| yM) )
   ·skip
    refine L.makeFunc rfl (ev1 rfl) ?_
    refine zj rfl qD ?_
    refine yL (is := [4, 9]) qk jD (y7 rfl ?_ <| y7 rfl ?_ <| yM) 
    ·skip
     refine zU rfl (ev1 rfl) qD qS (iname_spec (l := Z.2.1) (p := Z.1) jO jO) jF ?_
     rw [show inN Z.1 Z.2.1 = w from by rw [hw, hZ, nm_eq]]
     refine zj rfl qD ?_
     refine yL (is := [5, 9]) qk jD (y7 rfl ?_ <| y7 rfl ?_ <| yM) 
     ·skip
      refine zA rfl (ev3 rfl rfl rfl) qD qS (of_spec (ft := 44) (cs := [.pointer (some ⟨b11, 0, none⟩)]) (d1 := cl b11 31 [.slice na i nc]) (d2 := rsl 1 na i nc (tl.map ys)) (os := os) (tb := (fun y : ID32 => decide (y.1 ∈ tl))) (F := 41) (x := w) jO hsh (uni_ptd hun) (fun y => in22_spec jO) hpd) ?_
      rintro _ _ _ ⟨qa, qn, qc, va, vn, vc, ra, rn, rc, rfl, hp_, hw_, hr_, rfl, rfl⟩
      refine zx qA qA ?_
      rw [hfr] at hp_ hw_ hr_ ⊢
      rw [hfe]
      refine zj rfl qD ?_
      refine ze 6 rfl rfl (z5 rfl rfl (zd (ze 7 rfl rfl (zK rfl rfl rfl (zd (ze 8 rfl rfl (zK rfl rfl rfl (zd (zo 9 rfl (zL rfl ze78 (fun b17 => ?_)))))))))))
      refine zj rfl qD ?_
      refine zo 10 rfl (zz ag78 rfl rfl qL qO qU qW ?_)
      refine zj rfl qD ?_
      refine ze 11 rfl rfl (za rfl rfl (zd (zX qk ?_)))
      refine y6 (A := cl b17 78 [.slice qa qn qc, .slice va vn vc, .slice ra rn rc]) qP ?_
      exact z4 (zB ⟨_, _, _, _, _, _, _, _, _, _, ⟨hp_, hw_, hr_⟩, rfl, rfl, rfl⟩ (.cons (t := 17) rfl <| .cons (t := 18) rfl <| z9 _) (.cons (t := 10) rfl <| .cons (t := 11) rfl <| .cons (t := 15) rfl <| z9 _) qD qD qF)
     ·skip
      refine zL rfl ze78 (fun b17 => ?_)
      refine zj rfl qD ?_
      refine zo 5 rfl (zA rfl (ev3 rfl rfl rfl) qD qS (of_spec (ft := 44) (cs := [.pointer (some ⟨b11, 0, none⟩)]) (d1 := cl b11 31 [.slice na i nc]) (d2 := rsl 1 na i nc (tl.map ys)) (os := os) (tb := (fun y : ID32 => decide (y.1 ∈ tl))) (F := 41) (x := w) jO hsh (uni_ptd hun) (fun y => in22_spec jO) hpd) ?_)
      rintro _ _ _ ⟨qa, qn, qc, va, vn, vc, ra, rn, rc, rfl, hp_, hw_, hr_, rfl, rfl⟩
      refine zx qA qA ?_
      rw [hfr] at hp_ hw_ hr_ ⊢
      rw [hfe]
      refine zj rfl qD ?_
      refine ze 6 rfl rfl (z5 rfl rfl (zd (ze 7 rfl rfl (zK rfl rfl rfl (zd (ze 8 rfl rfl (zK rfl rfl rfl (zd (zo 10 rfl (zz ag78 rfl rfl qL qO qU qW ?_))))))))))
      refine zj rfl qD ?_
      refine ze 11 rfl rfl (za rfl rfl (zd (zX qk ?_)))
      refine y6 (A := cl b17 78 [.slice qa qn qc, .slice va vn vc, .slice ra rn rc]) qP ?_
      exact z4 (zB ⟨_, _, _, _, _, _, _, _, _, _, ⟨hp_, hw_, hr_⟩, rfl, rfl, rfl⟩ (.cons (t := 17) rfl <| .cons (t := 18) rfl <| z9 _) (.cons (t := 10) rfl <| .cons (t := 11) rfl <| .cons (t := 15) rfl <| z9 _) qD qD qF)
    ·skip
     refine zL rfl ze78 (fun b17 => ?_)
     refine zj rfl qD ?_
     refine zo 4 rfl (zU rfl (ev1 rfl) qD qS (iname_spec (l := Z.2.1) (p := Z.1) jO jO) jF ?_)
     rw [show inN Z.1 Z.2.1 = w from by rw [hw, hZ, nm_eq]]
     refine zj rfl qD ?_
     refine zo 5 rfl (zA rfl (ev3 rfl rfl rfl) qD qS (of_spec (ft := 44) (cs := [.pointer (some ⟨b11, 0, none⟩)]) (d1 := cl b11 31 [.slice na i nc]) (d2 := rsl 1 na i nc (tl.map ys)) (os := os) (tb := (fun y : ID32 => decide (y.1 ∈ tl))) (F := 41) (x := w) jO hsh (uni_ptd hun) (fun y => in22_spec jO) hpd) ?_)
     rintro _ _ _ ⟨qa, qn, qc, va, vn, vc, ra, rn, rc, rfl, hp_, hw_, hr_, rfl, rfl⟩
     refine zx qA qA ?_
     rw [hfr] at hp_ hw_ hr_ ⊢
     rw [hfe]
     refine zj rfl qD ?_
     refine ze 6 rfl rfl (z5 rfl rfl (zd (ze 7 rfl rfl (zK rfl rfl rfl (zd (ze 8 rfl rfl (zK rfl rfl rfl (zd (zo 10 rfl (zz ag78 rfl rfl qL qO qU qW ?_))))))))))
     refine zj rfl qD ?_
     refine ze 11 rfl rfl (za rfl rfl (zd (zX qk ?_)))
     refine y6 (A := cl b17 78 [.slice qa qn qc, .slice va vn vc, .slice ra rn rc]) qP ?_
     exact z4 (zB ⟨_, _, _, _, _, _, _, _, _, _, ⟨hp_, hw_, hr_⟩, rfl, rfl, rfl⟩ (.cons (t := 17) rfl <| .cons (t := 18) rfl <| z9 _) (.cons (t := 10) rfl <| .cons (t := 11) rfl <| .cons (t := 15) rfl <| z9 _) qD qD qF)
   ·skip
    refine zU rfl (ev1 rfl) qD qS (iname_spec (l := Z.2.1) (p := Z.1) jO jO) jF ?_
    rw [show inN Z.1 Z.2.1 = w from by rw [hw, hZ, nm_eq]]
    refine zj rfl qD ?_
    refine yL (is := [2, 9]) qk jD (y7 rfl ?_ <| y7 rfl ?_ <| yM) 
    ·skip
     refine L.makeFunc rfl (ev1 rfl) ?_
     refine zj rfl qD ?_
     refine yL (is := [5, 9]) qk jD (y7 rfl ?_ <| y7 rfl ?_ <| yM) 
     ·skip
      refine zA rfl (ev3 rfl rfl rfl) qD qS (of_spec (ft := 44) (cs := [.pointer (some ⟨b11, 0, none⟩)]) (d1 := cl b11 31 [.slice na i nc]) (d2 := rsl 1 na i nc (tl.map ys)) (os := os) (tb := (fun y : ID32 => decide (y.1 ∈ tl))) (F := 41) (x := w) jO hsh (uni_ptd hun) (fun y => in22_spec jO) hpd) ?_
      rintro _ _ _ ⟨qa, qn, qc, va, vn, vc, ra, rn, rc, rfl, hp_, hw_, hr_, rfl, rfl⟩
      refine zx qA qA ?_
      rw [hfr] at hp_ hw_ hr_ ⊢
      rw [hfe]
      refine zj rfl qD ?_
      refine ze 6 rfl rfl (z5 rfl rfl (zd (ze 7 rfl rfl (zK rfl rfl rfl (zd (ze 8 rfl rfl (zK rfl rfl rfl (zd (zo 9 rfl (zL rfl ze78 (fun b17 => ?_)))))))))))
      refine zj rfl qD ?_
      refine zo 10 rfl (zz ag78 rfl rfl qL qO qU qW ?_)
      refine zj rfl qD ?_
      refine ze 11 rfl rfl (za rfl rfl (zd (zX qk ?_)))
      refine y6 (A := cl b17 78 [.slice qa qn qc, .slice va vn vc, .slice ra rn rc]) qP ?_
      exact z4 (zB ⟨_, _, _, _, _, _, _, _, _, _, ⟨hp_, hw_, hr_⟩, rfl, rfl, rfl⟩ (.cons (t := 17) rfl <| .cons (t := 18) rfl <| z9 _) (.cons (t := 10) rfl <| .cons (t := 11) rfl <| .cons (t := 15) rfl <| z9 _) qD qD qF)
     ·skip
      refine zL rfl ze78 (fun b17 => ?_)
      refine zj rfl qD ?_
      refine zo 5 rfl (zA rfl (ev3 rfl rfl rfl) qD qS (of_spec (ft := 44) (cs := [.pointer (some ⟨b11, 0, none⟩)]) (d1 := cl b11 31 [.slice na i nc]) (d2 := rsl 1 na i nc (tl.map ys)) (os := os) (tb := (fun y : ID32 => decide (y.1 ∈ tl))) (F := 41) (x := w) jO hsh (uni_ptd hun) (fun y => in22_spec jO) hpd) ?_)
      rintro _ _ _ ⟨qa, qn, qc, va, vn, vc, ra, rn, rc, rfl, hp_, hw_, hr_, rfl, rfl⟩
      refine zx qA qA ?_
      rw [hfr] at hp_ hw_ hr_ ⊢
      rw [hfe]
      refine zj rfl qD ?_
      refine ze 6 rfl rfl (z5 rfl rfl (zd (ze 7 rfl rfl (zK rfl rfl rfl (zd (ze 8 rfl rfl (zK rfl rfl rfl (zd (zo 10 rfl (zz ag78 rfl rfl qL qO qU qW ?_))))))))))
      refine zj rfl qD ?_
      refine ze 11 rfl rfl (za rfl rfl (zd (zX qk ?_)))
      refine y6 (A := cl b17 78 [.slice qa qn qc, .slice va vn vc, .slice ra rn rc]) qP ?_
      exact z4 (zB ⟨_, _, _, _, _, _, _, _, _, _, ⟨hp_, hw_, hr_⟩, rfl, rfl, rfl⟩ (.cons (t := 17) rfl <| .cons (t := 18) rfl <| z9 _) (.cons (t := 10) rfl <| .cons (t := 11) rfl <| .cons (t := 15) rfl <| z9 _) qD qD qF)
    ·skip
     refine zL rfl ze78 (fun b17 => ?_)
     refine zj rfl qD ?_
     refine zo 2 rfl (L.makeFunc rfl (ev1 rfl) ?_)
     refine zj rfl qD ?_
     refine zo 5 rfl (zA rfl (ev3 rfl rfl rfl) qD qS (of_spec (ft := 44) (cs := [.pointer (some ⟨b11, 0, none⟩)]) (d1 := cl b11 31 [.slice na i nc]) (d2 := rsl 1 na i nc (tl.map ys)) (os := os) (tb := (fun y : ID32 => decide (y.1 ∈ tl))) (F := 41) (x := w) jO hsh (uni_ptd hun) (fun y => in22_spec jO) hpd) ?_)
     rintro _ _ _ ⟨qa, qn, qc, va, vn, vc, ra, rn, rc, rfl, hp_, hw_, hr_, rfl, rfl⟩
     refine zx qA qA ?_
     rw [hfr] at hp_ hw_ hr_ ⊢
     rw [hfe]
     refine zj rfl qD ?_
     refine ze 6 rfl rfl (z5 rfl rfl (zd (ze 7 rfl rfl (zK rfl rfl rfl (zd (ze 8 rfl rfl (zK rfl rfl rfl (zd (zo 10 rfl (zz ag78 rfl rfl qL qO qU qW ?_))))))))))
     refine zj rfl qD ?_
     refine ze 11 rfl rfl (za rfl rfl (zd (zX qk ?_)))
     refine y6 (A := cl b17 78 [.slice qa qn qc, .slice va vn vc, .slice ra rn rc]) qP ?_
     exact z4 (zB ⟨_, _, _, _, _, _, _, _, _, _, ⟨hp_, hw_, hr_⟩, rfl, rfl, rfl⟩ (.cons (t := 17) rfl <| .cons (t := 18) rfl <| z9 _) (.cons (t := 10) rfl <| .cons (t := 11) rfl <| .cons (t := 15) rfl <| z9 _) qD qD qF)
   ·skip
    refine zL rfl ze78 (fun b17 => ?_)
    refine zj rfl qD ?_
    refine yL (is := [2, 4]) qk jD (y7 rfl ?_ <| y7 rfl ?_ <| yM) 
    ·skip
     refine L.makeFunc rfl (ev1 rfl) ?_
     refine zj rfl qD ?_
     refine zo 4 rfl (zU rfl (ev1 rfl) qD qS (iname_spec (l := Z.2.1) (p := Z.1) jO jO) jF ?_)
     rw [show inN Z.1 Z.2.1 = w from by rw [hw, hZ, nm_eq]]
     refine zj rfl qD ?_
     refine zo 5 rfl (zA rfl (ev3 rfl rfl rfl) qD qS (of_spec (ft := 44) (cs := [.pointer (some ⟨b11, 0, none⟩)]) (d1 := cl b11 31 [.slice na i nc]) (d2 := rsl 1 na i nc (tl.map ys)) (os := os) (tb := (fun y : ID32 => decide (y.1 ∈ tl))) (F := 41) (x := w) jO hsh (uni_ptd hun) (fun y => in22_spec jO) hpd) ?_)
     rintro _ _ _ ⟨qa, qn, qc, va, vn, vc, ra, rn, rc, rfl, hp_, hw_, hr_, rfl, rfl⟩
     refine zx qA qA ?_
     rw [hfr] at hp_ hw_ hr_ ⊢
     rw [hfe]
     refine zj rfl qD ?_
     refine ze 6 rfl rfl (z5 rfl rfl (zd (ze 7 rfl rfl (zK rfl rfl rfl (zd (ze 8 rfl rfl (zK rfl rfl rfl (zd (zo 10 rfl (zz ag78 rfl rfl qL qO qU qW ?_))))))))))
     refine zj rfl qD ?_
     refine ze 11 rfl rfl (za rfl rfl (zd (zX qk ?_)))
     refine y6 (A := cl b17 78 [.slice qa qn qc, .slice va vn vc, .slice ra rn rc]) qP ?_
     exact z4 (zB ⟨_, _, _, _, _, _, _, _, _, _, ⟨hp_, hw_, hr_⟩, rfl, rfl, rfl⟩ (.cons (t := 17) rfl <| .cons (t := 18) rfl <| z9 _) (.cons (t := 10) rfl <| .cons (t := 11) rfl <| .cons (t := 15) rfl <| z9 _) qD qD qF)
    ·skip
     refine zU rfl (ev1 rfl) qD qS (iname_spec (l := Z.2.1) (p := Z.1) jO jO) jF ?_
     rw [show inN Z.1 Z.2.1 = w from by rw [hw, hZ, nm_eq]]
     refine zj rfl qD ?_
     refine zo 2 rfl (L.makeFunc rfl (ev1 rfl) ?_)
     refine zj rfl qD ?_
     refine zo 5 rfl (zA rfl (ev3 rfl rfl rfl) qD qS (of_spec (ft := 44) (cs := [.pointer (some ⟨b11, 0, none⟩)]) (d1 := cl b11 31 [.slice na i nc]) (d2 := rsl 1 na i nc (tl.map ys)) (os := os) (tb := (fun y : ID32 => decide (y.1 ∈ tl))) (F := 41) (x := w) jO hsh (uni_ptd hun) (fun y => in22_spec jO) hpd) ?_)
     rintro _ _ _ ⟨qa, qn, qc, va, vn, vc, ra, rn, rc, rfl, hp_, hw_, hr_, rfl, rfl⟩
     refine zx qA qA ?_
     rw [hfr] at hp_ hw_ hr_ ⊢
     rw [hfe]
     refine zj rfl qD ?_
     refine ze 6 rfl rfl (z5 rfl rfl (zd (ze 7 rfl rfl (zK rfl rfl rfl (zd (ze 8 rfl rfl (zK rfl rfl rfl (zd (zo 10 rfl (zz ag78 rfl rfl qL qO qU qW ?_))))))))))
     refine zj rfl qD ?_
     refine ze 11 rfl rfl (za rfl rfl (zd (zX qk ?_)))
     refine y6 (A := cl b17 78 [.slice qa qn qc, .slice va vn vc, .slice ra rn rc]) qP ?_
     exact z4 (zB ⟨_, _, _, _, _, _, _, _, _, _, ⟨hp_, hw_, hr_⟩, rfl, rfl, rfl⟩ (.cons (t := 17) rfl <| .cons (t := 18) rfl <| z9 _) (.cons (t := 10) rfl <| .cons (t := 11) rfl <| .cons (t := 15) rfl <| z9 _) qD qD qF)
  rintro _ _ _ ⟨b17, qa, qn, qc, va, vn, vc, ra, rn, rc, ⟨hp_, hw_, hr_⟩, rfl, rfl, rfl⟩
  refine zD qA qA qA ?_
  refine z4 (z6 (yq (clsL [1, 1, 1, 1, 1, 1, 1, 2, 2, 2, 2, 1, 1]) qk ?_))
  refine ze 0 rfl rfl (z5 rfl rfl (zd (ze 1 rfl rfl (yx rfl rfl rfl (zd (ze 2 rfl rfl (z5 rfl rfl (zd (A.known (t := 68) rfl (show _ = Value.bool true from congrArg Value.bool (decide_eq_true rfl)) ?_)))))))))
  refine ze 3 rfl rfl (zf (dj := 68) rfl rfl rfl (zr rfl ag78 rfl qN ?_))
  refine zd (ze 4 rfl rfl (zf (dj := 68) rfl rfl rfl (z5 rfl rfl (zd (ze 5 rfl rfl (zf (dj := 68) rfl rfl rfl (zi rfl sc31 rfl qC ?_)))))))
  refine zd (ze 6 rfl rfl (zf (dj := 68) rfl rfl rfl (zr rfl ag54 rfl qN ?_)))
  refine zd (zo 7 rfl (zf (dj := 68) rfl rfl rfl (zU rfl (ev1 rfl) qD qS (iname_spec (l := Z.2.1) (p := Z.1) jO jO) jF ?_)))
  rw [show inN Z.1 Z.2.1 = w from by rw [hw, hZ, nm_eq]]
  refine zj rfl qD ?_
  refine zo 8 rfl (zf (dj := 68) rfl rfl rfl (zU rfl (ev1 rfl) qD qS (obytes_spec (l := w.1) hw2) jF ?_))
  refine zj rfl qD ?_
  refine zo 9 rfl (zf (dj := 68) rfl rfl rfl (zA rfl (ev3 rfl rfl rfl) qD qS (rof_spec (os := os) (tl := tl) (x := w) jO jO hsh (uni_ptd hun)) ?_))
  rintro _ _ _ ⟨pa2, pn2, pc2, wa2, wn2, wc2, ra2, rn2, rc2, sa2, sk2, sd2, rfl, hp2, hw2_, hr2, rfl, rfl⟩
  refine zx qA qA ?_
  rw [hrp] at hp2 hw2_ hr2 ⊢
  refine zj rfl qD ?_
  refine zo 10 rfl (zf (dj := 68) rfl rfl rfl (zU rfl (ev2 rfl rfl) qD qS (is22_spec (s := R) jO jO jO hwk) jF ?_))
  refine zj rfl qD ?_
  refine ze 11 rfl rfl (yg rfl rfl rfl (zd (ze 12 rfl rfl (za rfl rfl (zd (zX qk ?_))))))
  exact z4 (zm (zE rfl rfl ⟨rfl, rfl, rfl⟩ qD qF))
end Cv
