/-
  The walks: stores: packed.
-/
import Derived.Test.YtncgoodlhmpfcaaGreatJx16
set_option linter.all false
set_option maxHeartbeats 400000
set_option maxRecDepth 10000
namespace Cv
open Go Go.Proofs
theorem del_sub {l : IvM} {k : ID32} : (del l k).Sublist l := by
  induction l with
  | nil => exact List.Sublist.refl _
  | cons p l ih =>
    obtain ⟨k1, u⟩ := p
    rw [del]; split
    · exact List.sublist_cons_self _ _
    · exact ih.cons_cons _
def dls (pl : IvM) (ds : List ID32) : IvM := ds.foldl del pl
theorem dls_s {pl : IvM} {ds : List ID32} {j : Nat} {x : ID32} (h : ds[j]? = some x) : dls pl (ds.take (j + 1)) = del (dls pl (ds.take j)) x := by
  unfold dls; rw [List.take_add_one, h, List.foldl_append]; rfl
theorem dls_sub : ∀ (ds : List ID32) (pl : IvM), (dls pl ds).Sublist pl
  | [], pl => List.Sublist.refl _
  | d :: ds, pl => (dls_sub ds (del pl d)).trans del_sub
theorem dls_mem {pl : IvM} {ds : List ID32} {e : ID32 × IV} (h : e ∈ dls pl ds) : e ∈ pl := (dls_sub ds pl).subset h
/-! ## stores packed: the plain model -/
abbrev rcsF (pl : IvM) (ws hs qs : List ID32) : List Rc := (recL pl ws hs qs).map (·.1)
structure PkF (os : List Ob) (pl : IvM) (hl al : SnM) (rs2 : List Rc) : Prop where
  ex : ∃ l us ws hs qs, ObF os l us ∧ TlF pl hl al ws hs qs ∧ rs2 = (pkO os us).map obRc ++ rcsF pl ws hs qs
structure PkH (os : List Ob) (pl : IvM) (hl al : SnM) (H : Nat) : Prop where
  hm : pl.length ≤ 12
  hh : hl.length ≤ 12
  ha : al.length ≤ 12
  h8 : R8 pl
  hd : ∀ x ∈ pl.map Prod.fst, VD pl 9 x
  hus : ∀ us, OrdF pl us → us.length ≤ 60000 ∧ ∀ x ∈ us, look pl x ≠ none
  hpl : ∀ e ∈ pl, e.2.2.2.1 ≤ 1000000 ∧ e.2.1.1.2 ≤ 4611686018427387904
  hrc : ∀ ws hs qs, TlF pl hl al ws hs qs → (recL pl ws hs qs).length ≤ 400000 ∧ ∀ m ∈ recL pl ws hs qs, RcOk m.1
  hsp : ∀ l us ws hs qs, ObF os l us → TlF pl hl al ws hs qs → csts ((pkO os us).map obRc ++ rcsF pl ws hs qs) < H
theorem rcs_no {pl : IvM} {ws hs qs : List ID32} : ∀ m ∈ (recL pl ws hs qs).map (·.1), rcO m = none := fun m hm => by
  unfold recL at hm
  rw [List.map_append, List.map_append, List.map_map, List.map_map, List.map_map] at hm
  rcases List.mem_append.1 hm with q | q
  · rcases List.mem_append.1 q with q | q
    · obtain ⟨x, _, rfl⟩ := List.mem_map.1 q; rfl
    · obtain ⟨x, _, rfl⟩ := List.mem_map.1 q; rfl
  · obtain ⟨x, _, rfl⟩ := List.mem_map.1 q; rfl
theorem dls_in {pl : IvM} {ds : List ID32} : ∀ χ ∈ (dls pl ds).map iF, χ ∈ pl.map iF := fun χ hχ => by
  obtain ⟨e, he, rfl⟩ := List.mem_map.1 hχ
  exact List.mem_map.2 ⟨e, dls_mem he, R⟩
def GoH (pl : IvM) (hl : SnM) (xs : List ID32) : Prop := ∀ i x, xs[i]? = some x → PlOk (dls pl (xs.take i)) ∧ ¬ refBy (dls pl (xs.take i)) x ∧ look hl x = none ∧ look (dls pl (xs.take i)) x ≠ none

theorem pack_spec {bs br bd bb bp bh ba tn : Nat} {k : Dk} {rs : List Rc} {pl : IvM} {hl al : SnM}  (hsh : Shf (osR rs)) (hol : (osR rs).length ≤ 12) (h12 : 9 * kn3 (osR rs) + (hl.length + al.length) ≤ 12) (hph : PkH (osR rs) pl hl al (hfN k.n)) (htn : tn ≤ 900000) : Spec Tryz.prog 78 [.pointer (some ⟨bs, 0, none⟩), .slice none 0 0] [cl k.bd 51 [.pointer (some ⟨k.bf, 0, none⟩), .slice (some ⟨k.sb, 0, none⟩) k.n k.n, .map (some k.bl)], cl br 128 (rgC bp bh ba), ifs pl] [cl bs 66 [.pointer (some ⟨br, 0, none⟩), .pointer (some ⟨bd, 0, none⟩), .bool false], dpA bd bb k none tn rs, mp bp aK ivV pl, mp bh aK iK hl, mp ba aK iK al] (fun v D' M' => ∃ (rs2 : List Rc), v = .int .i64 0 ∧ (PkF (osR rs) pl hl al rs2) ∧ D' = [] ∧ M' = [cl bs 66 [.pointer (some ⟨br, 0, none⟩), .pointer (some ⟨bd, 0, none⟩), .bool false], dpA bd bb k none (tn + 1) rs2, mp bp aK ivV pl, mp bh aK iK hl, mp ba aK iK al]) := by
 refine zv (n := 56) Tryz.func78 ?_
 intro σ D M
 obtain ⟨g1, g2, g3, g4, g5, g6, g7, g8, g9⟩ := hph
 obtain ⟨on_, hon_⟩ : ∃ n, (osR rs).length = n := ⟨_, rfl⟩
 refine yM (sz := 32) (e := 38) ?_
 refine y3 qP (show own 32 38 none 0 0 [] = own 32 38 none 0 0 ((([] : List ID32)).map iC) from R) ?_
 refine yQ (rows := ([] : List ID32).map iC) qP ?_
 refine O (V R R (I (O (E R R (yq R bu105 (zF R R R <| zQ (out := [Value.bool false]) R) ?_)))))
 refine y6 R R R (fun b12 => ?_)
 refine V R R (I (ze (yx (fun K' D' M' => ∃ (xa : Option Addr) (xn xc : Nat) (xs : List ID32), (xs.length = xn ∧ xn ≤ 100000) ∧ K' = [(6, .slice xa xn xc)] ∧ D' = [] ∧ M' = [cl b12 105 [.pointer (some ⟨bs, 0, none⟩), .bool false], cl bs 66 [.pointer (some ⟨br, 0, none⟩), .pointer (some ⟨bd, 0, none⟩), .bool false], dpA bd bb k none tn rs, mp bp aK ivV pl, mp bh aK iK hl, mp ba aK iK al, own 32 38 xa xn xc ((xs).map iC)]) (M0 := [cl b12 105 [.pointer (some ⟨bs, 0, none⟩), .bool false], cl bs 66 [.pointer (some ⟨br, 0, none⟩), .pointer (some ⟨bd, 0, none⟩), .bool false], dpA bd bb k none tn rs, mp bp aK ivV pl, mp bh aK iK hl, mp ba aK iK al]) (.c 0 R <| .c 1 R <| .c 5 R <| zd _) qS ?_ ?_)))
 ·refine y7 (clsL [1, 0, 1, 0, 1, 0, 0, 1, 0, 1, 0, 2, 2, 1]) qk ?_
  refine z9 0 R R (E R R (z7 (z9 4 R R (E R R (z7 (z9 7 R R (E R R (z7 (yE (i := 1) R R qk qk qk qk R qD qF R ?_)))))))))
  refine z9 2 R R (zg R xr R ?_)
  refine z7 (zY (i := 3) R R R R qk qk qk qk R qD qF ?_)
  refine zf R sc63 R qC ?_
  refine z7 (zY (i := 5) R R R R qk qk qk qk R qD qF ?_)
  refine L.mkIface R Tryz.underlying103 (by intro i q; cases q) R ?_
  refine z7 (yE (i := 8) R R qk qk qk qk R qD qF R ?_)
  refine z9 9 R R (zg R xr R ?_)
  refine z7 (zY (i := 10) R R R R qk qk qk qk R qD qF ?_)
  refine zf R sc63 R qC ?_
  refine z7 (zi 6 R (L.foldAs (asA b12 bs br bd bb k tn rs) (L := [cl b12 105 [.pointer (some ⟨bs, 0, none⟩), .bool false], cl bs 66 [.pointer (some ⟨br, 0, none⟩), .pointer (some ⟨bd, 0, none⟩), .bool false], dpA bd bb k none tn rs]) qS R ?_))
  refine zp R (ev2 R R) qD qS (live_spec (os := osR rs) (n := on_) (hl := hl) (al := al) jO hsh g2 g3 h12 hon_ R) ?_
  rintro _ _ _ ⟨la, ln, lc, lv, rfl, hlf, hln, rfl, rfl⟩
  refine zm qA qA ?_
  refine L.unfold _ (A := asA b12 bs br bd bb k tn rs) qP R qA ?_
  have hlb := liv_len jO jO hlf
  refine yH R qD qF ?_
  refine zi 11 R (zp R (ev1 R) qD qS (paths_spec (pl := pl) jO) ?_)
  rintro _ _ _ ⟨pa, pn, pc, ps, rfl, hpf, hpn, rfl, rfl⟩
  refine zm qA qA ?_
  have hpb := hpf.len
  rw [List.length_map] at hpb
  refine zh R qD ?_
  refine zi 12 R (xC R yh yh el38 R R qP (rd_M qM) one_ics qI qI (fun a25 c25 => ?_))
  refine L.ownEq _ ((lv ++ ps).map iC) qP (by rw [List.map_append]) ?_
  refine zh R qD ?_
  refine z9 13 R R (V R R (z7 (zN qk ?_)))
  exact z8 (zK ⟨_, _, _, lv ++ ps, ⟨by rw [List.length_append]; omega, by omega⟩, R, R, R⟩ (.c 6 R <| zd _) (.c 0 R <| .c 1 R <| .c 5 R <| zd _) qD qD qF)
 rintro _ _ _ ⟨xa, xn, xc, xs, ⟨hxn, hxb⟩, rfl, rfl, rfl⟩
 refine zM qA qA qA ?_
 refine z8 (O (E R R (E R R (xC R yh yh el38 R R qP (rd_D qM) one_ics qI qI (fun a28 c28 => ?_)))))
 refine L.ownEq _ (xs.map iC) qP (by simp) ?_
 refine V R R (zu (yQ (rows := xs.map iC) qP ?_))
 refine z8 (O (E R R (L.mkIface R Tryz.underlying103 (by intro i q; cases q) R ?_)))
 refine E R R (L.foldAs (asA b12 bs br bd bb k tn rs) (L := [cl b12 105 [.pointer (some ⟨bs, 0, none⟩), .bool false], cl bs 66 [.pointer (some ⟨br, 0, none⟩), .pointer (some ⟨bd, 0, none⟩), .bool false], dpA bd bb k none tn rs]) qS R ?_)
 refine zp R (ev2 R R) qD qS (objs_spec (os := osR rs) (n := on_) (l := xs) jO hsh jO hon_ R) ?_
 rintro _ _ _ ⟨ka, kn, kc, us, rfl, hof, hkn, rfl, rfl⟩
 refine zm qA qA ?_
 refine L.unfold _ (A := asA b12 bs br bd bb k tn rs) qP R qA ?_
 refine yF (rows := us.map iC) qP ?_
 have hul := hof.len
 refine V R R (I (ze (O (E R R (zJ R R ?_)))))
 refine zg R fo105_1 R ?_
 refine zf R sc4 R qC ?_
 refine I (zR R R ?_)
 refine zq (z8 (ze (yx (fun K' D' M' => ∃ (rs2 : List Rc), (PkF (osR rs) pl hl al rs2) ∧ K' = [(9, .int .i64 0)] ∧ D' = [] ∧ M' = [cl bs 66 [.pointer (some ⟨br, 0, none⟩), .pointer (some ⟨bd, 0, none⟩), .bool false], dpA bd bb k none (tn + 1) rs2, mp bp aK ivV pl, mp bh aK iK hl, mp ba aK iK al]) (M0 := [cl bs 66 [.pointer (some ⟨br, 0, none⟩), .pointer (some ⟨bd, 0, none⟩), .bool false], dpA bd bb k none tn rs, mp bp aK ivV pl, mp bh aK iK hl, mp ba aK iK al]) (.c 0 R <| zd _) qS ?_ ?_)))
 ·refine y7 (clsL [1, 0, 1, 0, 1, 1, 0, 1, 0, 0, 2, 1, 1, 1, 1, 1]) qk ?_
  refine z9 0 R R (E R R (z7 (z9 4 R R (E R R (z7 (z9 5 R R (E R R (z7 (yE (i := 1) R R qk qk qk qk R qD qF R ?_)))))))))
  refine z9 2 R R (zg R fo66_1 R ?_)
  refine z7 (zY (i := 3) R R R R qk qk qk qk R qD qF ?_)
  refine zf R sc64 R qC ?_
  refine z7 (yE (i := 6) R R qk qk qk qk R qD qF R ?_)
  refine z9 7 R R (zg R xr R ?_)
  refine z7 (zY (i := 8) R R R R qk qk qk qk R qD qF ?_)
  refine zf R sc63 R qC ?_
  refine z7 (zi 9 R (zp R (ev1 R) qD qS (records_spec (pl := pl) (hl := hl) (al := al) jO g4 g5 g6 g7 jO jO) ?_))
  rintro _ _ _ ⟨ra, rn, rc_, ws, hs, qs, rfl, htf, hrn, rfl, rfl⟩
  refine zm qA qA ?_
  refine yF (rows := (recL pl ws hs qs).map rcC) qP ?_
  obtain ⟨h81, h82⟩ := g8 _ _ _ htf
  refine yH R qD qF ?_
  refine zi 10 R (zp R (ev3 R R R) qD qS (dpack_spec (xs := us) (ms := recL pl ws hs qs) jO jO (asc_nd hof.asc) h82 rcs_no (g9 _ _ _ _ _ hof htf) htn) ?_)
  rintro _ _ _ ⟨qa, qn, qc, rfl, rfl, rfl⟩
  refine zm qA qA ?_
  refine zh R qD ?_
  refine z9 11 R R (E R R (z7 (z9 12 R R (zr R R R (z7 (z9 13 R R (zr R R R (z7 (z9 14 R R (V R R (z7 (z9 15 R R (V R R (z7 (zN qk ?_)))))))))))))))
  exact z8 (zK ⟨(pkO (osR rs) us).map obRc ++ rcsF pl ws hs qs, ⟨_, us, ws, hs, qs, hof, htf, R⟩, R, R, R⟩ (.c 9 R <| zd _) (.c 0 R <| zd _) qD qD qF)
 rintro _ _ _ ⟨rs2, hpk, rfl, rfl, rfl⟩
 refine zM qA qA qA ?_
 refine z8 (O (E R R (E R R (zp R (ev2 R R) qD qS (sfails_spec) ?_))))
 rintro _ _ _ ⟨rfl, rfl, rfl⟩
 refine zm qA qA ?_
 refine V R R (I (zo (y3 qP (show cl bs 66 [.pointer (some ⟨br, 0, none⟩), .pointer (some ⟨bd, 0, none⟩), .bool (false || decide ((0 : Int) = 13))] = cl bs 66 [.pointer (some ⟨br, 0, none⟩), .pointer (some ⟨bd, 0, none⟩), .bool false] from R) ?_)))
 exact zy R R ⟨_, R, hpk, R, R⟩ qD qF
end Cv
set_option maxRecDepth 10000
namespace Cv
open Go Go.Proofs

theorem sdrop_spec {bs br bd bb bp bh ba tn : Nat} {k : Dk} {rs : List Rc} {pl : IvM} {hl al : SnM} {xs : List ID32} {a : Option Addr} {n c : Nat} (hsh : Shf (osR rs)) (hol : (osR rs).length ≤ 12) (h12 : 9 * kn3 (osR rs) + (hl.length + al.length) ≤ 12) (htn : tn ≤ 900000) (hgo : GoH pl hl xs) (hph : PkH (osR rs) (dls pl xs) hl al (hfN k.n)) (hn : n ≤ 100000) : Spec Tryz.prog 43 [.pointer (some ⟨bs, 0, none⟩), .slice a n c] [cl k.bd 51 [.pointer (some ⟨k.bf, 0, none⟩), .slice (some ⟨k.sb, 0, none⟩) k.n k.n, .map (some k.bl)], cl br 128 (rgC bp bh ba), ifs pl, rsl 32 a n c (xs.map iC)] [cl bs 66 [.pointer (some ⟨br, 0, none⟩), .pointer (some ⟨bd, 0, none⟩), .bool false], dpA bd bb k none tn rs, mp bp aK ivV pl, mp bh aK iK hl, mp ba aK iK al] (fun v D' M' => ∃ (b2 p2 h2 a2 : Nat) (rs2 : List Rc), v = .int .i64 0 ∧ (PkF (osR rs) (dls pl xs) hl al rs2) ∧ D' = [cl b2 128 (rgC p2 h2 a2), ifs (dls pl xs)] ∧ M' = [cl bs 66 [.pointer (some ⟨b2, 0, none⟩), .pointer (some ⟨bd, 0, none⟩), .bool false], dpA bd bb k none (tn + 1) rs2, mp p2 aK ivV (dls pl xs), mp h2 aK iK hl, mp a2 aK iK al]) := by
 refine zv (n := 47) Tryz.func43 ?_
 intro σ D M
 refine yU (a := a) (len := n) (cap := c) (rows := xs.map iC) qM (fun hxl hxc => ?_)
 rw [List.length_map] at hxl
 refine O (V R R (I (O (E R R (zJ R R ?_)))))
 refine zg R xr R ?_
 refine zf R sc63 R qC ?_
 refine zp R (ev1 R) qD qS (rgclone_spec (pl := pl) (hl := hl) (al := al)) ?_
 rintro _ _ _ ⟨b2, p2, h2, a2, rfl, rfl, rfl⟩
 refine zm qA qA ?_
 refine V R R (I (ze (O (E R R (yb R yh R (E R R (I (zD (y3 qP (show mp p2 aK ivV pl = mp p2 aK ivV (dls pl (xs.take 0)) from R) ?_)))))))))
 refine y8 (fun K' D' M' μ => ∃ (i : Nat), (i ≤ n) ∧ K' = [(18, .int .i64 (i : Int))] ∧ D' = [] ∧ M' = [mp p2 aK ivV (dls pl (xs.take i)), mp h2 aK iK hl, mp a2 aK iK al] ∧ μ = n - i) (.c 0 R <| .c 5 R <| .c 16 R <| .c 17 R <| zd _) (⟨0, Nat.zero_le _, R, R, R, R⟩) (.c 18 R <| zd _) qD qS ?_
 rintro K1 D1 M1 m1 ⟨i, hi, rfl, rfl, rfl, rfl⟩
 refine zM qA qA qA ?_
 refine O (zW R R R (I (ze (zA R (fun h19 => ?_) (fun h19 => ?_)))))
 ·try simp only [dq] at h19
  refine zq (z8 (ze (zD (ze ?_))))
  have hgi : xs[i]? = some (gd xs i) := y9 jO
  obtain ⟨x, hx_⟩ : ∃ z, z = gd xs i := ⟨_, rfl⟩
  rw [← hx_] at hgi
  clear hx_
  have hgr : (xs.map iC)[i]? = some (iC x) := yJ hgi
  have hx2 := x.2
  have hx3 := yw x
  obtain ⟨go1, go2, go3, go4⟩ := hgo i x hgi
  refine T.fcsSub (L := pl.map iF) (L' := (dls pl (xs.take i)).map iF) dls_in qM ?_
  refine zt (yP (i := i) R yh sz38 R R qM jR qG (fun b20 o20 => ?_))
  refine zx R zI R (xl qM hx3) ?_
  refine zC R ze38 (fun b7 => ?_)
  refine zz zI R R qL qO qU qW ?_
  refine zu (zO (A := cl b7 38 (iC x)) qP ?_)
  refine z8 (O (E R R (zx R zI R qN ?_)))
  refine zH R (ev2 R R) qD qS (record_spec (k := 3) (x := x)) jF ?_
  refine zp R (ev2 R R) qD qS (do3_spec (pl := (dls pl (xs.take i))) (hl := hl) (al := al) (x := x) go1 go2 go3 go4) ?_
  rintro _ _ _ ⟨rfl, rfl, rfl⟩
  refine zm qA qA ?_
  refine V R R (I (O (E R R (zZ R R R (I (zR R (decide_eq_false (fun q => q R)) ?_))))))
  refine zq (zS (z8 (zt (zT R R R jO ?_))))
  refine E R R (I (y3 (qP : Pull (mp p2 aK ivV (del (dls pl (xs.take i)) x)) _ _) (show _ = mp p2 aK ivV (dls pl (xs.take (i + 1))) from by rw [dls_s hgi]) ?_))
  exact zV ⟨i + 1, jO, R, R, R, R⟩ qI (.c 18 R <| zd _) (.c 0 R <| .c 5 R <| .c 16 R <| .c 17 R <| zd _) qD qD qF
 try simp only [dq] at h19
 obtain rfl : n = i := by omega
 rw [List.take_of_length_le jO]
 refine y4 (zG (zG (y5 (z8 (O (E R R (zJ R R ?_)))))))
 refine zg R xr R ?_
 refine zf R sc63 R qC ?_
 refine V R R (I (O (E R R (E R R (zJ R R ?_)))))
 refine zg R xr R ?_
 refine yj sc63 R R R qU qE ?_
 refine I (ze (T.fcsSub (L := pl.map iF) (L' := (dls pl xs).map iF) dls_in qM ?_))
 refine zt (E R R (zp R (ev2 R R) qD qS (pack_spec (pl := (dls pl xs)) (hl := hl) (al := al) hsh hol h12 hph htn) ?_))
 rintro _ _ _ ⟨rs2, rfl, hpk, rfl, rfl⟩
 refine zm qA qA ?_
 refine V R R (I (ze (O (E R R (zZ R R R (I (zR R (decide_eq_false (fun q => q R)) ?_)))))))
 exact zq (z8 (O (E R R (V R R (I (zo (zy R R ⟨_, _, _, _, _, R, hpk, R, R⟩ qD qF)))))))
theorem gc_spec {bs br bd bb bp bh ba tn : Nat} {k : Dk} {rs : List Rc} {pl : IvM} {hl al : SnM} {xs : List ID32} (hsh : Shf (osR rs)) (hol : (osR rs).length ≤ 12) (h12 : 9 * kn3 (osR rs) + (hl.length + al.length) ≤ 12) (htn : tn ≤ 900000) (hgo : GoH pl hl xs) (hph : PkH (osR rs) (dls pl xs) hl al (hfN k.n)) (hp0 : pl.length ≤ 12) (hh0 : hl.length ≤ 12) (ha0 : al.length ≤ 12) (h8 : R8 pl) (hd : ∀ x ∈ pl.map Prod.fst, VD pl 9 x) (hdd : ∀ lv us, LivF (osR rs) hl al lv → OrdF pl us → ddF lv us.reverse = xs) (hxl : xs.length ≤ 100000) : Spec Tryz.prog 11 [.pointer (some ⟨bs, 0, none⟩)] [cl k.bd 51 [.pointer (some ⟨k.bf, 0, none⟩), .slice (some ⟨k.sb, 0, none⟩) k.n k.n, .map (some k.bl)], cl br 128 (rgC bp bh ba), ifs pl] [cl bs 66 [.pointer (some ⟨br, 0, none⟩), .pointer (some ⟨bd, 0, none⟩), .bool false], dpA bd bb k none tn rs, mp bp aK ivV pl, mp bh aK iK hl, mp ba aK iK al] (fun v D' M' => ∃ (b2 p2 h2 a2 : Nat) (rs2 : List Rc), v = .tuple #[.int .i64 (xs.length : Int), .int .i64 0] ∧ (PkF (osR rs) (dls pl xs) hl al rs2) ∧ D' = [cl b2 128 (rgC p2 h2 a2), ifs (dls pl xs)] ∧ M' = [cl bs 66 [.pointer (some ⟨b2, 0, none⟩), .pointer (some ⟨bd, 0, none⟩), .bool false], dpA bd bb k none (tn + 1) rs2, mp p2 aK ivV (dls pl xs), mp h2 aK iK hl, mp a2 aK iK al]) := by
 refine zv (n := 35) Tryz.func11 ?_
 intro σ D M
 obtain ⟨on_, hon_⟩ : ∃ n, (osR rs).length = n := ⟨_, rfl⟩
 refine O (V R R (V R R (I (ze (O (E R R (zJ R R ?_)))))))
 refine zg R fo66_2 R ?_
 refine zf R sc4 R qC ?_
 refine I (zR R R ?_)
 refine zq (z8 (O (E R R (yq R bu105 (zF R R R <| zQ (out := [Value.bool false]) R) ?_))))
 refine y6 R R R (fun b13 => ?_)
 refine V R R (I (O (E R R (zJ R R ?_))))
 refine zg R xr R ?_
 refine zf R sc63 R qC ?_
 refine E R R (L.mkIface R Tryz.underlying103 (by intro i q; cases q) R ?_)
 refine L.foldAs (asA b13 bs br bd bb k tn rs) (L := [cl b13 105 [.pointer (some ⟨bs, 0, none⟩), .bool false], cl bs 66 [.pointer (some ⟨br, 0, none⟩), .pointer (some ⟨bd, 0, none⟩), .bool false], dpA bd bb k none tn rs]) qS R ?_
 refine zp R (ev2 R R) qD qS (dead_spec (os := osR rs) (n := on_) (pl := pl) (hl := hl) (al := al) jO hsh hh0 ha0 jO h8 hd h12 hon_ R) ?_
 rintro _ _ _ ⟨da, dn, dc, lv, us, rfl, hlv, hof, hdn, rfl, rfl⟩
 refine zm qA qA ?_
 refine L.unfold _ (A := asA b13 bs br bd bb k tn rs) qP R qA ?_
 obtain hdx := hdd _ _ hlv hof
 rw [hdx] at hdn ⊢
 subst hdn
 refine yF (rows := xs.map iC) qP ?_
 refine V R R (I (ze (O (E R R (zJ R R ?_)))))
 refine zg R fo105_1 R ?_
 refine zf R sc4 R qC ?_
 refine I (zR R R ?_)
 refine zq (z8 (ze (O (E R R (E R R (zp R (ev2 R R) qD qS (sdrop_spec (xs := xs) (pl := pl) (hl := hl) (al := al) hsh hol h12 htn hgo hph hxl) ?_))))))
 rintro _ _ _ ⟨b2, p2, h2, a2, rs2, rfl, hpk, rfl, rfl⟩
 refine zm qA qA ?_
 refine V R R (I (O (E R R (zZ R R R (I (zR R (decide_eq_false (fun q => q R)) ?_))))))
 exact zq (z8 (O (E R R (yb R yh R (V R R (V R R (I (zo (x8 R R R ⟨_, _, _, _, _, R, hpk, R, R⟩ qD qF)))))))))
end Cv
