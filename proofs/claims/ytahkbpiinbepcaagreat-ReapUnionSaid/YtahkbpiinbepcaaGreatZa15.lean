/-
  The walks: the law on unions.
-/
import Derived.Test.YtahkbpiinbepcaaGreatYc15
import Derived.Test.YtahkbpiinbepcaaGreatCvLd
import Derived.Test.YtahkbpiinbepcaaGreatProg
import Derived.KernelRfl
set_option linter.unusedVariables false
set_option linter.unusedSimpArgs false
set_option linter.unusedSectionVars false
set_option maxHeartbeats 400000
set_option maxRecDepth 10000
namespace Cv
open Go Go.Proofs
/-! ## what two lists of names reach -/
theorem rch_closed {os : List Ob} {l us : List ID32} (h : RchF os l us) {z : ID32} : Rch os us z ↔ z ∈ us := by
  constructor
  · intro r
    induction r with
    | base h => exact h
    | step _ k m ih => exact (h.mem _).2 (.step ((h.mem _).1 ih) k m)
  · exact .base
theorem rch_again {os : List Ob} {l us vs : List ID32} (h : RchF os l us) (k : RchF os us vs) : vs = us := asc_uniq k.asc h.asc fun z => (k.mem z).trans (rch_closed h)
theorem rch_none {os : List Ob} {us : List ID32} (h : RchF os [] us) : us = [] := by
  refine List.eq_nil_iff_forall_not_mem.2 fun z hz => ?_
  have : ∀ z, ¬ Rch os [] z := fun z r => by
    induction r with
    | base h => cases h
    | step _ _ _ ih => exact ih
  exact this z ((h.mem z).1 hz)
theorem rch_app {os : List Ob} {l m : List ID32} {z : ID32} : Rch os (l ++ m) z ↔ Rch os l z ∨ Rch os m z := by
  constructor
  · intro r
    induction r with
    | base h => exact (List.mem_append.1 h).elim (fun q => .inl (.base q)) (fun q => .inr (.base q))
    | step _ k m ih => exact ih.elim (fun q => .inl (.step q k m)) (fun q => .inr (.step q k m))
  · rintro (r | r)
    · induction r with
      | base h => exact .base (List.mem_append_left _ h)
      | step _ k m ih => exact .step ih k m
    · induction r with
      | base h => exact .base (List.mem_append_right _ h)
      | step _ k m ih => exact .step ih k m
def cntF (l : List ID32) (i : Nat) : SnM := (l.take i).foldl (fun ml x => put ml x (val0 ml x + 1)) []
theorem cntF_s {l : List ID32} {i : Nat} {x : ID32} (h : l[i]? = some x) : cntF l (i + 1) = put (cntF l i) x (val0 (cntF l i) x + 1) := by
  unfold cntF; rw [List.take_add_one, h, List.foldl_append]; rfl
theorem cntF_in {l : List ID32} : ∀ i, i ≤ l.length → (∀ z, z ∈ (cntF l i).map Prod.fst ↔ z ∈ l.take i) ∧ (∀ z, 0 ≤ val0 (cntF l i) z ∧ val0 (cntF l i) z ≤ i) ∧ ∀ z ∈ l.take i, 1 ≤ val0 (cntF l i) z
  | 0, _ => ⟨fun z => Iff.rfl, fun z => ⟨Int.le_refl _, Int.le_refl _⟩, fun z h => by cases h⟩
  | i + 1, h => by
    obtain ⟨h1, h2, h3⟩ := cntF_in (l := l) i (by omega)
    have hg : l[i]? = some l[i] := List.getElem?_eq_getElem (by omega)
    rw [cntF_s hg]
    refine ⟨fun z => ?_, fun z => ?_, fun z hz => ?_⟩
    · rw [put_mem, h1 z, List.take_add_one, hg, List.mem_append]
      exact or_congr Iff.rfl (by simp)
    · have a := h2 z
      have b := h2 l[i]
      rw [val0_put]; split <;> omega
    · rw [val0_put]
      split
      · have := h2 l[i]; omega
      · rename_i c
        rw [List.take_add_one, hg] at hz
        rcases List.mem_append.1 hz with q | q
        · exact h3 z q
        · exact absurd (by simpa using q) c
theorem union_has {os : List Ob} {l m us1 us2 us : List ID32} (h1 : RchF os l us1) (h2 : RchF os m us2) (h : RchF os (l ++ m) us) (z : ID32) : z ∈ us ↔ z ∈ us1 ++ us2 := by
  rw [h.mem z, rch_app, List.mem_append, h1.mem z, h2.mem z]
theorem union_len {os : List Ob} {l m us1 us2 us : List ID32} (h1 : RchF os l us1) (h2 : RchF os m us2) (h : RchF os (l ++ m) us) (hn : ((cntF (us1 ++ us2) (us1 ++ us2).length).map Prod.fst).Nodup) : us.length = (cntF (us1 ++ us2) (us1 ++ us2).length).length := by
  obtain ⟨k, -, -⟩ := cntF_in (l := us1 ++ us2) _ (Nat.le_refl _)
  rw [List.take_length] at k
  have a := nd_len (asc_nd h.asc) (m := (cntF (us1 ++ us2) (us1 ++ us2).length).map Prod.fst) fun z hz => (k z).2 ((union_has h1 h2 h z).1 hz)
  have b := nd_len hn (m := us) fun z hz => (union_has h1 h2 h z).2 ((k z).1 hz)
  rw [List.length_map] at a b; omega
theorem stI_shf {ls : List Int} {os : List Ob} (h : Shf os) : ∀ i, i ≤ os.length → Shf (stI ls os i)
  | 0, _ => fun o ho => by cases ho
  | i + 1, hi => by
    have ih := stI_shf (ls := ls) h i (by omega)
    rw [stI]
    split
    · intro o ho
      rcases List.mem_append.1 ho with q | q
      · exact ih o q
      · obtain rfl : o = gd os i := by simpa using q
        exact h _ (List.mem_of_getElem? (zI (by omega)))
    · exact ih
theorem stk_shf (ps ls : List Int) : Shf (stk ps ls) := stI_shf (stB_shf ps 5) _ (Nat.le_refl _)

theorem union_law {pa aa ba : Option Addr} {pn pc an ac bn bc : Nat} {ps la lb : List Int} (hzps : ∀ z ∈ ps, -9223372036854775808 ≤ z ∧ z ≤ 9223372036854775807) (hzla : ∀ z ∈ la, -9223372036854775808 ≤ z ∧ z ≤ 9223372036854775807) (hzlb : ∀ z ∈ lb, -9223372036854775808 ≤ z ∧ z ≤ 9223372036854775807) (hpn : pn ≤ 4611686018427387904) (han : an ≤ 4611686018427387904) (hbn : bn ≤ 4611686018427387904) : Spec Tryz.prog 6 [.slice pa pn pc, .slice aa an ac, .slice ba bn bc] [rsl 1 pa pn pc (ps.map e3), rsl 1 aa an ac (la.map e3), rsl 1 ba bn bc (lb.map e3)] [] (fun v D' M' => v = .bool true ∧ D' = [] ∧ M' = []) := by
 refine zF (n := 99) Tryz.func6 ?_
 intro σ D M
 skip
 refine z6 (z8 (z9 rfl rfl (z7 (z4 (z6 (z6 (z8 ?_)))))))
 refine y4 rfl (evs.nil) qD qS (awake15_spec) (by rintro u D1 M1 ⟨rfl, rfl, rfl⟩; exact ⟨rfl, _, qA, qF⟩) ?_
 refine xe rfl rfl ?_
 refine z7 (z4 ?_)
 refine yL rfl rfl ?_
 refine zm (z4 (z6 ?_))
 refine yB (sz := 1) (e := 3) ?_
 refine zX qP (show own 1 3 none 0 0 [] = own 1 3 none 0 0 (([] : List Int).map e3) from rfl) ?_
 refine yq (rows := ([] : List Int).map e3) qP ?_
 refine z8 (z5 rfl rfl ?_)
 refine zw rfl (ev2 rfl rfl) qD qS (stock_spec (ps := ps) (ls := []) hzps (by decide) hpn) ?_
 rintro _ _ _ ⟨sa, sb, sn, sc, sd, rfl, hsn, rfl, rfl⟩
 refine zu qA qA ?_
 have hsh := stk_shf ps []
 have hsl := stk_len ps []
 obtain ⟨os, hos⟩ : ∃ z, z = stk ps [] := ⟨_, rfl⟩
 rw [← hos] at hsn hsh hsl ⊢
 refine z5 rfl rfl (zW rfl rfl rfl (zW rfl rfl rfl ?_))
 refine zV rfl ze26 (fun b7 => ?_)
 refine zN ag26 rfl rfl qL qO qU qW ?_
 refine z9 rfl rfl (z7 ?_)
 refine yh (A := cl b7 26 [.slice sa sn sc]) qP ?_
 refine z4 (z6 (z8 (z5 rfl rfl ?_)))
 refine zw rfl (ev1 rfl) qD qS (names15_spec (ps := la) hzla (by omega)) ?_
 rintro _ _ _ ⟨xa, xb, xn, xc, xd, rfl, hxn, rfl, rfl⟩
 refine zu qA qA ?_
 obtain ⟨X, hX_⟩ : ∃ z, z = (la.take 5).map nz := ⟨_, rfl⟩
 have hx5 : X.length ≤ 5 := by rw [hX_, List.length_map, List.length_take]; omega
 rw [← hX_] at hxn ⊢
 refine z5 rfl rfl (zW rfl rfl rfl (zW rfl rfl rfl (z9 rfl rfl (z9 rfl rfl (z7 (z4 (z6 (z8 (z5 rfl rfl ?_)))))))))
 refine zw rfl (ev1 rfl) qD qS (names15_spec (ps := lb) hzlb (by omega)) ?_
 rintro _ _ _ ⟨ya, yb, yn, yc, yd, rfl, hyn, rfl, rfl⟩
 refine zu qA qA ?_
 obtain ⟨Y, hY_⟩ : ∃ z, z = (lb.take 5).map nz := ⟨_, rfl⟩
 have hy5 : Y.length ≤ 5 := by rw [hY_, List.length_map, List.length_take]; omega
 rw [← hY_] at hyn ⊢
 refine z5 rfl rfl (zW rfl rfl rfl (zW rfl rfl rfl (z9 rfl rfl (z9 rfl rfl (z7 (z4 (z6 (z8 ?_))))))))
 refine L.makeMap aK iK rfl (fun sm => ?_)
 refine z9 rfl rfl (z7 (z4 (z6 (z6 ?_))))
 refine yg (fun K' D' M' => ∃ (a45 : Option Addr) (n45 c45 : Nat) (us1 us2 : List ID32), (RchF os X us1 ∧ RchF os Y us2 ∧ (us1 ++ us2).length = n45 ∧ n45 ≤ 100000) ∧ K' = [(45, .slice a45 n45 c45), (46, .int .i64 (n45 : Int)), (47, .int .i64 0)] ∧ D' = [rsl 32 a45 n45 c45 ((us1 ++ us2).map iC)] ∧ M' = []) (M0 := []) (.cons (t := 7) rfl <| .cons (t := 9) rfl <| .cons (t := 11) rfl <| .cons (t := 13) rfl <| za _) qS ?_ ?_
 ·skip
  refine yp (clsL [1, 1, 1, 2, 1, 1, 1, 2, 2, 1, 1]) qk ?_
  refine ze 0 ?_
  refine zt rfl ag26 rfl qN ?_
  refine zd ?_
  refine ze 1 ?_
  refine L.mkIface rfl xz (by intro i q; cases q) rfl ?_
  refine zd ?_
  refine ze 2 ?_
  refine z5 rfl rfl (zd ?_)
  refine ze 4 ?_
  refine zt rfl ag26 rfl qN ?_
  refine zd ?_
  refine ze 5 ?_
  refine L.mkIface rfl xz (by intro i q; cases q) rfl ?_
  refine zd ?_
  refine ze 6 ?_
  refine z5 rfl rfl (zd ?_)
  refine ze 10 ?_
  refine z5 rfl rfl (zd ?_)
  refine zx 3 ?_
  refine zw rfl (ev2 rfl rfl) qD qS (reach_spec (os := os) (l := X) (by omega) hsh (by omega)) ?_
  rintro _ _ _ ⟨ea, en, ec, us1, rfl, hef, hen, heb, rfl, rfl⟩
  refine zu qA qA ?_
  refine zA rfl qD ?_
  refine zx 7 ?_
  refine zw rfl (ev2 rfl rfl) qD qS (reach_spec (os := os) (l := Y) (by omega) hsh (by omega)) ?_
  rintro _ _ _ ⟨fa, fn, fc, us2, rfl, hff, hfn, hfb, rfl, rfl⟩
  refine zu qA qA ?_
  refine zA rfl qD ?_
  refine zx 8 ?_
  refine xp rfl zz zz el38 rfl rfl qP (rd_M qM) one_ics qI qI (fun a45 c45 => ?_)
  refine zA rfl qD ?_
  refine ze 9 ?_
  refine y3 rfl zz rfl ?_
  refine zd ?_
  refine y9 qk ?_
  refine y5 _ ((us1 ++ us2).map iC) qP (by rw [List.map_append]) ?_
  refine yq (rows := (us1 ++ us2).map iC) qP ?_
  refine z4 ?_
  exact zG ⟨_, _, _, us1, us2, ⟨hef, hff, by rw [List.length_append, hen, hfn], by omega⟩, rfl, rfl, rfl⟩ (.cons (t := 45) rfl <| .cons (t := 46) rfl <| .cons (t := 47) rfl <| za _) (.cons (t := 7) rfl <| .cons (t := 9) rfl <| .cons (t := 11) rfl <| .cons (t := 13) rfl <| za _) qD qD qF
 rintro _ _ _ ⟨a45, n45, c45, us1, us2, ⟨hF1, hF2, hl45, hb45⟩, rfl, rfl, rfl⟩
 refine zC qA qA qA ?_
 refine z4 (zr ?_)
 refine zY (fun K' D' M' μ => ∃ (i : Nat), (i ≤ n45) ∧ K' = [(47, .int .i64 (i : Int))] ∧ D' = [] ∧ M' = [mp sm aK iK (cntF (us1 ++ us2) i)] ∧ μ = n45 - i) (.cons (t := 7) rfl <| .cons (t := 9) rfl <| .cons (t := 11) rfl <| .cons (t := 13) rfl <| .cons (t := 45) rfl <| .cons (t := 46) rfl <| za _) (⟨0, Nat.zero_le _, rfl, rfl, rfl, rfl⟩) (.cons (t := 47) rfl <| za _) qD qS ?_
 rintro K1 D1 M1 m1 ⟨i, hi, rfl, rfl, rfl, rfl⟩
 refine zC qA qA qA ?_
 refine z6 (z8 ?_)
 refine zU rfl rfl rfl ?_
 refine z7 (z4 (z6 ?_))
 refine zo rfl (fun h48 => ?_) (fun h48 => ?_)
 ·try simp only [dq] at h48
  refine zm (z4 (z6 (zr (z6 ?_))))
  have hgx : (us1 ++ us2)[i]? = some (gd (us1 ++ us2) i) := zI (by omega)
  obtain ⟨x, hx_⟩ : ∃ z, z = gd (us1 ++ us2) i := ⟨_, rfl⟩
  rw [← hx_] at hgx
  clear hx_
  have hrx : ((us1 ++ us2).map iC)[i]? = some (iC x) := zS hgx
  have hx2 := x.2
  have hx3 := zT x
  obtain ⟨hc1, hc2, hc3⟩ := cntF_in (l := us1 ++ us2) i (by omega)
  have hcx := hc2 x
  refine z8 ?_
  refine yM (i := i) rfl zz zJ rfl rfl qM (by first | rfl | omega | (simp; done)) qG (fun b49 o49 => ?_)
  refine zt rfl zy rfl (xj qM hx3) ?_
  refine zV rfl ze38 (fun b15 => ?_)
  refine zN zy rfl rfl qL qO qU qW ?_
  refine z7 ?_
  refine yh (A := cl b15 38 (iC x)) qP ?_
  refine z4 ?_
  refine yg (fun K' D' M' => K' = [] ∧ D' = [] ∧ M' = [mp sm aK iK (cntF (us1 ++ us2) (i + 1))]) (M0 := [mp sm aK iK (cntF (us1 ++ us2) i)]) (.cons (t := 7) rfl <| .cons (t := 9) rfl <| .cons (t := 11) rfl <| .cons (t := 13) rfl <| .cons (t := 45) rfl <| .cons (t := 46) rfl <| .cons (t := 47) rfl <| za _) qS ?_ ?_
  ·skip
   refine yp (clsL [1, 1, 2, 1, 2, 1, 2]) qk ?_
   refine ze 0 ?_
   refine z5 rfl rfl (zd ?_)
   refine ze 1 ?_
   refine zt rfl zy rfl qN ?_
   refine zd ?_
   refine xu (is := [2, 4]) qk (by decide) (yP rfl ?_ <| yP rfl ?_ <| xv) 
   ·skip
    refine L.lookup1 (kenc := aK) (venc := iK) (l := (cntF (us1 ++ us2) i)) (k := x) rfl xg (xm yW ym sc5) zv3 rfl rfl qM ?_
    refine zv (t := 53) (u := .int .i64 (val0 ((cntF (us1 ++ us2) i)) (x))) rfl (by unfold val0; cases look ((cntF (us1 ++ us2) i)) (x) <;> rfl) ?_
    refine zA rfl qD ?_
    refine ze 3 ?_
    refine zE rfl rfl rfl (by omega) ?_
    refine zd ?_
    refine zx 4 ?_
    refine L.mapEntry (kenc := aK) (venc := iK) (l := (cntF (us1 ++ us2) i)) (k := x) (z0 := 0) rfl xg (xm yW ym sc5) zv3 rfl rfl qP (fun mt => ?_)
    refine zA rfl qD ?_
    refine ze 5 ?_
    refine zW rfl rfl rfl (zd ?_)
    refine zx 6 ?_
    refine L.entryStore (kenc := aK) (venc := iK) (l := Cv.put (cntF (us1 ++ us2) i) x ((look (cntF (us1 ++ us2) i) x).getD 0)) (k := x) (v := val0 (cntF (us1 ++ us2) i) x + 1) rfl rfl rfl rfl qP ?_
    rw [put_put, ← cntF_s hgx]
    refine zA rfl qD ?_
    refine y9 qk ?_
    refine z4 ?_
    exact zG ⟨rfl, rfl, rfl⟩ (za _) (.cons (t := 7) rfl <| .cons (t := 9) rfl <| .cons (t := 11) rfl <| .cons (t := 13) rfl <| .cons (t := 45) rfl <| .cons (t := 46) rfl <| .cons (t := 47) rfl <| za _) qD qD qF
   ·skip
    refine L.mapEntry (kenc := aK) (venc := iK) (l := (cntF (us1 ++ us2) i)) (k := x) (z0 := 0) rfl xg (xm yW ym sc5) zv3 rfl rfl qP (fun mt => ?_)
    refine zA rfl qD ?_
    refine ze 5 ?_
    refine zW rfl rfl rfl (zd ?_)
    refine zx 2 ?_
    refine L.lookup1E (kenc := aK) (venc := iK) (l := Cv.put (cntF (us1 ++ us2) i) x ((look (cntF (us1 ++ us2) i) x).getD 0)) (k := x) rfl xg (xm yW ym sc5) zv3 rfl rfl qM ?_
    refine zv (t := 53) (u := .int .i64 (val0 (cntF (us1 ++ us2) i) x)) rfl (by rw [look_put, if_pos rfl]; rfl) ?_
    refine zA rfl qD ?_
    refine ze 3 ?_
    refine zE rfl rfl rfl (by omega) ?_
    refine zd ?_
    refine zx 6 ?_
    refine L.entryStore (kenc := aK) (venc := iK) (l := Cv.put (cntF (us1 ++ us2) i) x ((look (cntF (us1 ++ us2) i) x).getD 0)) (k := x) (v := val0 (cntF (us1 ++ us2) i) x + 1) rfl rfl rfl rfl qP ?_
    rw [put_put, ← cntF_s hgx]
    refine zA rfl qD ?_
    refine y9 qk ?_
    refine z4 ?_
    exact zG ⟨rfl, rfl, rfl⟩ (za _) (.cons (t := 7) rfl <| .cons (t := 9) rfl <| .cons (t := 11) rfl <| .cons (t := 13) rfl <| .cons (t := 45) rfl <| .cons (t := 46) rfl <| .cons (t := 47) rfl <| za _) qD qD qF
  rintro _ _ _ ⟨rfl, rfl, rfl⟩
  refine zC qA qA qA ?_
  refine zK (z4 (z8 ?_))
  refine zE rfl rfl rfl (by omega) ?_
  refine z5 rfl rfl (z7 (z4 ?_))
  exact zO ⟨i + 1, (by omega), rfl, rfl, rfl, rfl⟩ qI (.cons (t := 47) rfl <| za _) (.cons (t := 7) rfl <| .cons (t := 9) rfl <| .cons (t := 11) rfl <| .cons (t := 13) rfl <| .cons (t := 45) rfl <| .cons (t := 46) rfl <| za _) qD qD qF
 ·try simp only [dq] at h48
  obtain rfl : n45 = i := by omega
  have hl45b := hl45
  refine T.mpNodup (kenc := aK) (venc := iK) qM (fun hnd => ?_)
  refine zQ (zj (zj (zR (z4 (z6 ?_)))))
  refine yg (fun K' D' M' => ∃ (a16 : Option Addr) (n16 c16 : Nat) (us : List ID32), (RchF os (X ++ Y) us ∧ us.length = n16) ∧ K' = [(16, .slice a16 n16 c16)] ∧ D' = [rsl 32 a16 n16 c16 ((us).map iC)] ∧ M' = []) (M0 := []) (.cons (t := 7) rfl <| .cons (t := 13) rfl <| za _) qS ?_ ?_
  ·skip
   refine yp (clsL [1, 1, 2, 1, 2, 1, 2, 2, 1]) qk ?_
   refine ze 0 ?_
   refine zt rfl ag26 rfl qN ?_
   refine zd ?_
   refine ze 1 ?_
   refine L.mkIface rfl xz (by intro i q; cases q) rfl ?_
   refine zd ?_
   refine ze 3 ?_
   refine z5 rfl rfl (zd ?_)
   refine ze 5 ?_
   refine z5 rfl rfl (zd ?_)
   refine zx 2 ?_
   refine ye rfl bs30 (by decide) (zM (out := []) rfl) (fun b60 => ?_)
   refine yO (len := 0) qP (rows := ([] : List ID32).map iC) (sz := 32) (by rfl) rfl (by simp) ?_
   refine zA rfl qD ?_
   refine zx 4 ?_
   refine xp rfl zz zz el38 rfl rfl qP (rd_D qM) one_ics qI qI (fun a62 c62 => ?_)
   refine zA rfl qD ?_
   refine zx 6 ?_
   refine xp rfl zz zz el38 rfl rfl qP (rd_D qM) one_ics qI qI (fun a64 c64 => ?_)
   refine L.ownEq _ ((X ++ Y).map iC) qP (by rw [List.map_append]; rfl) ?_
   refine x6 (rows := (X ++ Y).map iC) qP ?_
   refine zA rfl qD ?_
   refine zx 7 ?_
   refine zw rfl (ev2 rfl rfl) qD qS (reach_spec (os := os) (l := X ++ Y) (by omega) hsh (by omega)) ?_
   rintro _ _ _ ⟨ga, gn, gc, us, rfl, hgf, hgn, hgb, rfl, rfl⟩
   refine zu qA qA ?_
   refine zA rfl qD ?_
   refine ze 8 ?_
   refine z9 rfl rfl (zd ?_)
   refine y9 qk ?_
   refine yq (rows := us.map iC) qP ?_
   refine z4 ?_
   exact zG ⟨_, _, _, us, ⟨hgf, hgn⟩, rfl, rfl, rfl⟩ (.cons (t := 16) rfl <| za _) (.cons (t := 7) rfl <| .cons (t := 13) rfl <| za _) qD qD qF
  rintro _ _ _ ⟨a16, n16, c16, us, ⟨hF, hl16⟩, rfl, rfl, rfl⟩
  refine zC qA qA qA ?_
  have hul := hF.len
  rw [List.length_append] at hul
  refine z4 (z6 (z6 (z8 (z5 rfl rfl ?_))))
  refine y3 rfl zz rfl ?_
  refine z5 rfl rfl (z7 (z4 (zr ?_)))
  refine zY (fun K' D' M' μ => ∃ (j : Nat), (j ≤ n16) ∧ K' = [(68, .int .i64 (j : Int))] ∧ D' = [] ∧ M' = [] ∧ μ = n16 - j) (.cons (t := 7) rfl <| .cons (t := 13) rfl <| .cons (t := 16) rfl <| .cons (t := 66) rfl <| .cons (t := 67) rfl <| za _) (⟨0, Nat.zero_le _, rfl, rfl, rfl, rfl⟩) (.cons (t := 68) rfl <| za _) qD qS ?_
  rintro K1 D1 M1 m1 ⟨j, hj, rfl, rfl, rfl, rfl⟩
  refine zC qA qA qA ?_
  refine z6 (z8 ?_)
  refine zU rfl rfl rfl ?_
  refine z7 (z4 (z6 ?_))
  refine zo rfl (fun h69 => ?_) (fun h69 => ?_)
  ·try simp only [dq] at h69
   refine zm (z4 (z6 (zr (z6 ?_))))
   have hgy : (us)[j]? = some (gd (us) j) := zI (by omega)
   obtain ⟨y, hy_⟩ : ∃ z, z = gd (us) j := ⟨_, rfl⟩
   rw [← hy_] at hgy
   clear hy_
   have hry : ((us).map iC)[j]? = some (iC y) := zS hgy
   have hy2 := y.2
   have hy3 := zT y
   obtain ⟨hc1, hc2, hc3⟩ := cntF_in (l := us1 ++ us2) n45 (by omega)
   rw [List.take_of_length_le (by omega)] at hc3
   have hcy := hc3 y ((union_has hF1 hF2 hF y).1 (List.mem_of_getElem? hgy))
   refine z8 ?_
   refine yM (i := j) rfl zz zJ rfl rfl qM (by first | rfl | omega | (simp; done)) qG (fun b70 o70 => ?_)
   refine zt rfl zy rfl (xj qM hy3) ?_
   refine zV rfl ze38 (fun b18 => ?_)
   refine zN zy rfl rfl qL qO qU qW ?_
   refine z7 ?_
   refine yh (A := cl b18 38 (iC y)) qP ?_
   refine z4 (z6 (z8 (z5 rfl rfl ?_)))
   refine zt rfl zy rfl qN ?_
   refine L.lookup1 (kenc := aK) (venc := iK) (l := (cntF (us1 ++ us2) n45)) (k := y) rfl xg (xm yW ym sc5) zv3 rfl rfl qM ?_
   refine zv (t := 74) (u := .int .i64 (val0 ((cntF (us1 ++ us2) n45)) (y))) rfl (by unfold val0; cases look ((cntF (us1 ++ us2) n45)) (y) <;> rfl) ?_
   refine yy rfl rfl rfl ?_
   refine z7 (z4 ?_)
   refine yL rfl (decide_eq_false (by omega)) ?_
   refine zm (zK (z4 (z8 ?_)))
   refine zE rfl rfl rfl (by omega) ?_
   refine z5 rfl rfl (z7 (z4 ?_))
   exact zO ⟨j + 1, (by omega), rfl, rfl, rfl, rfl⟩ qI (.cons (t := 68) rfl <| za _) (.cons (t := 7) rfl <| .cons (t := 13) rfl <| .cons (t := 16) rfl <| .cons (t := 66) rfl <| .cons (t := 67) rfl <| za _) qD qD qF
  ·try simp only [dq] at h69
   obtain rfl : n16 = j := by omega
   refine zQ (zj (zj (zR (z4 (z6 ?_)))))
   refine yB (sz := 32) (e := 38) ?_
   refine zX qP (show own 32 38 none 0 0 [] = own 32 38 none 0 0 (([] : List ID32).map iC) from rfl) ?_
   refine yq (rows := ([] : List ID32).map iC) qP ?_
   refine z8 (z5 rfl rfl ?_)
   refine y3 rfl zz rfl ?_
   refine z5 rfl rfl ?_
   refine L.lenMap (l := (cntF (us1 ++ us2) n45)) rfl xg rfl qM ?_
   refine yy rfl rfl rfl ?_
   refine z5 rfl rfl ?_
   refine zv (t := 82) rfl (show _ = Value.bool true from congrArg Value.bool (decide_eq_true (by rw [← hl45] at hnd ⊢; have := union_len hF1 hF2 hF hnd; omega))) ?_
   refine zf (dj := 82) rfl rfl rfl ?_
   refine zt rfl ag26 rfl qN ?_
   refine zf (dj := 82) rfl rfl rfl ?_
   refine L.mkIface rfl xz (by intro i q; cases q) rfl ?_
   refine zf (dj := 82) rfl rfl rfl (z5 rfl rfl (zf (dj := 82) rfl rfl rfl ?_))
   refine zw rfl (ev2 rfl rfl) qD qS (reach_spec (os := os) (l := us) (by omega) hsh (by omega)) ?_
   rintro _ _ _ ⟨ka, kn, kc, vs, rfl, hkf, hkn, hkb, rfl, rfl⟩
   refine zu qA qA ?_
   refine zf (dj := 82) rfl rfl rfl ?_
   refine y3 rfl zz rfl ?_
   refine zf (dj := 82) rfl rfl rfl (z5 rfl rfl (zf (dj := 82) rfl rfl rfl ?_))
   refine y3 rfl zz rfl ?_
   refine zf (dj := 82) rfl rfl rfl ?_
   refine yy rfl rfl rfl ?_
   refine y7 rfl rfl rfl ?_
   refine z5 rfl rfl ?_
   refine zv (t := 92) rfl (show _ = Value.bool true from congrArg Value.bool (decide_eq_true (by have := congrArg List.length (rch_again hF hkf); omega))) ?_
   refine zf (dj := 92) rfl rfl rfl ?_
   refine zt rfl ag26 rfl qN ?_
   refine zf (dj := 92) rfl rfl rfl ?_
   refine L.mkIface rfl xz (by intro i q; cases q) rfl ?_
   refine zf (dj := 92) rfl rfl rfl ?_
   refine zw rfl (ev2 rfl rfl) qD qS (reach_spec (os := os) (l := []) (by omega) hsh (by omega)) ?_
   rintro _ _ _ ⟨ma, mn, mc, ws, rfl, hmf, hmn, hmb, rfl, rfl⟩
   refine zu qA qA ?_
   refine zf (dj := 92) rfl rfl rfl ?_
   refine y3 rfl zz rfl ?_
   refine zf (dj := 92) rfl rfl rfl ?_
   refine yy rfl rfl rfl ?_
   refine y7 rfl rfl rfl ?_
   refine z9 rfl rfl (z7 (z4 (zi ?_)))
   exact zD rfl rfl ⟨congrArg Value.bool (decide_eq_true (by have := congrArg List.length (rch_none hmf); simp only [List.length_nil] at this; omega)), rfl, rfl⟩ qD qF
end Cv
