/-
  The walks: stores: what an addition needs.
-/
import Derived.Test.YtncgoodlhmpfcaaGreatJ16
import Derived.Test.YtncgoodlhmpfcaaGreatK06
set_option linter.all false
set_option maxHeartbeats 400000
set_option maxRecDepth 10000
namespace Cv
open Go Go.Proofs

theorem iofo_spec {x : Tr} {p : Pt} {os : List Ob} {ta ra : Option Addr} {tl tc rc : Nat} (hwe : wrE x = 0) (hof : ofB x = (p, os, 0)) (hc : x.count ≤ 900000) (hsm : TAll Sm x) (htl : x.t.length ≤ 20000) : Spec Tryz.prog 24 [.agg (iRow x ta tl tc).toArray, .slice ra 0 rc] [rtr x (eRow x ta tl tc), rsl 32 ra 0 rc (([] : List ID32).map iC)] [] (fun v D' M' => ∃ (a1 a2 : Option Addr) (c1 n2 c2 : Nat), v = .tuple #[.agg (inC p a1 0 c1).toArray, .slice a2 n2 c2, .int .i64 0] ∧ (os.length = n2) ∧ D' = [rsl 32 a1 0 c1 (([] : List ID32).map iC)] ∧ M' = [own 34 88 a2 n2 c2 ((os).map obC)]) := by
 refine zv (n := 42) Tryz.func24 ?_
 intro σ D M
 have hwl := wrS_len x
 refine O (y6 R R R (fun b2 => ?_))
 refine zC R ze75 (fun b4 => ?_)
 refine V R R (V R R (I (O (zx R yC R qN ?_))))
 refine zH R (ev1 R) qD qS (write_spec (x := x) _ _ _ hc hsm htl) jF ?_
 refine E R R (zr R R R (zr R R R (V R R (V R R (I (ze (O (E R R (zZ R R R (I (zR R (decide_eq_false (fun q => q hwe)) ?_)))))))))))
 refine zq (z8 (O (E R R (zp R (ev1 R) qD qS (sorted_spec (xs := []) jD) ?_))))
 rintro _ _ _ ⟨sa, sn, sc, l, rfl, hnf, hsn, rfl, rfl⟩
 refine zm qA qA ?_
 obtain rfl : l = [] := List.eq_nil_iff_forall_not_mem.2 (fun z hz => by have := (hnf.mem z).1 hz; simp at this)
 obtain rfl : sn = 0 := hsn.symm
 refine V R R (zu (yQ (rows := ([] : List ID32).map iC) qP ?_))
 refine z8 (ze (O (E R R (yb R yh R (yy R R R (I (zR R (decide_eq_false jD) ?_)))))))
 refine zq (z8 (O (zp R (ev1 R) qD qS (gnew_spec (seed := seedS) jD) ?_)))
 rintro _ _ _ ⟨tb, rfl, rfl, rfl⟩
 refine zm qA qA ?_
 refine E R R (zp R (ev2 R R) qD qS (cut2_spec (tt := gearT seedS) (s := wrS x) gearT_len jO) ?_)
 rintro _ _ _ ⟨ka, kn, kc, rfl, hkn, rfl, rfl⟩
 refine zm qA qA ?_
 have hkl := chnF_len (T := gearT seedS) (s := wrS x)
 refine yF (rows := (chnF (gearT seedS) (wrS x)).map ys) qP ?_
 refine zp R (ev1 R) qD qS (mbuild_spec (cs := chnF (gearT seedS) (wrS x)) jO) ?_
 rintro _ _ _ ⟨ma, mn, mc, rfl, hmn, rfl, rfl⟩
 refine zm qA qA ?_
 have hbe : bldM (chnF (gearT seedS) (wrS x)) = (p, os, 0) := hof
 rw [hbe] at hmn ⊢
 have hp3 := ptC_len p
 have hp32 := p.1.2
 have hin := inC_len p sa 0 sc
 refine E R R (zr R R R (zr R R R (zr R R R (zC R ze73 (fun b9 => ?_)))))
 refine zz ag73 R R qL qO qU qW ?_
 refine V R R (V R R (I (ze (O (E R R (zZ R R R (I (zR R (decide_eq_false (fun q => q R)) ?_))))))))
 refine zq (z8 (O (zx R ag73 R qN ?_)))
 refine E R R (yq R bu75 (yG R R j1 (Nat.le_of_ble_eq_true R) qR <| zF R R R <| zQ (out := []) R) ?_)
 refine zE (t := 40) (u := .agg (inC p sa 0 sc).toArray) R (by first | rfl | simp) ?_
 refine E R R (zz yu R R qL qO qU qW ?_)
 exact V R R (V R R (I (zo (T.retATT R yu R qN R R ⟨_, _, _, _, _, R, hmn, R, R⟩ qD qF))))
theorem addn_spec {bs br bd bb tn b3 b8 b9 ln lc ic : Nat} {ia la : Option Addr} {k : Dk} {rs : List Rc} {l : List Ob} {p : Pt} (hs : sumC l ≤ 1000000) (hn : ln ≤ 1000000) (hlb : ∀ o ∈ l, o.2.2.length ≤ 100000) (hp : p.2 ≤ 4611686018427387904) (hpt : (inT p []).length ≤ 4096) : Spec Tryz.prog 32 [.pointer (some ⟨b3, 0, none⟩), .pointer (some ⟨b9, 0, none⟩), .pointer (some ⟨b8, 0, none⟩)] [cl b3 24 [.pointer (some ⟨bs, 0, none⟩)], cl b9 76 [.slice la ln lc], cl b8 75 (inC p ia 0 ic), rsl 34 la ln lc (l.map obC), rsl 32 ia 0 ic (([] : List ID32).map iC)] [cl bs 66 [.pointer (some ⟨br, 0, none⟩), .pointer (some ⟨bd, 0, none⟩), .bool false], dpA bd bb k none tn rs] (fun v D' M' => ∃ (z : Nat), v = .int .i64 (z : Int) ∧ (z ≤ sumC l + cstB (inT p []).length) ∧ D' = [] ∧ M' = [cl bs 66 [.pointer (some ⟨br, 0, none⟩), .pointer (some ⟨bd, 0, none⟩), .bool false], dpA bd bb k none tn rs]) := by
 refine zv (n := 15) Tryz.func32 ?_
 intro σ D M
 have hin := inC_len p ia 0 ic
 have hp32 := p.1.2
 have hcb := cst_le (n := (inT p []).length) jO
 refine O (V R R (I (ze (yx (fun K' D' M' => ∃ (z : Nat), (z ≤ sumC l + cstB (inT p []).length) ∧ K' = [(3, .int .i64 (z : Int))] ∧ D' = [] ∧ M' = [cl bs 66 [.pointer (some ⟨br, 0, none⟩), .pointer (some ⟨bd, 0, none⟩), .bool false], dpA bd bb k none tn rs]) (M0 := [cl bs 66 [.pointer (some ⟨br, 0, none⟩), .pointer (some ⟨bd, 0, none⟩), .bool false], dpA bd bb k none tn rs]) (zd _) qS ?_ ?_))))
 ·refine y7 (clsL [1, 1, 1, 2, 1, 2, 1, 2, 1, 2, 1, 1]) qk ?_
  refine z9 0 R R (zf R sc24 R qC ?_)
  refine z7 (yX (i := 1) R R qk qk qk R qD R ?_)
  refine z9 2 R R (zg R fo66_1 R ?_)
  refine z7 (z9 4 R R (zf R sc76 R qC ?_))
  refine z7 (z9 6 R R (zx R yu R qN ?_))
  refine z7 (zi 3 R (zf R sc64 R qC ?_))
  refine zh R qD ?_
  refine zi 5 R (zp R (ev2 R R) qD qS (dcost_spec (f := none) (l := l) hs hn hlb) ?_)
  rintro _ _ _ ⟨z, rfl, hz, rfl, rfl⟩
  refine zm qA qA ?_
  refine zh R qD ?_
  refine zi 7 R (zH R (ev1 R) qD qS (itext_spec (l := []) (p := p) jD hp) jF ?_)
  refine zh R qD ?_
  refine z9 8 R R (yL R ye R (z7 (zi 9 R (zH R (ev1 R) qD qS (cost_spec (d := (inT p []).length) jO) jF ?_))))
  refine zh R qD ?_
  refine z9 10 R R (zT R R R jO ?_)
  refine zE (t := 14) (u := .int .i64 ((z + cstB (inT p []).length : Nat) : Int)) R (congrArg (Value.int .i64) jO) ?_
  refine z7 (z9 11 R R (V R R (z7 (zN qk ?_))))
  exact z8 (zK ⟨z + cstB (inT p []).length, jO, R, R, R⟩ (.c 3 R <| zd _) (zd _) qD qD qF)
 rintro _ _ _ ⟨z, hz, rfl, rfl, rfl⟩
 refine zM qA qA qA ?_
 exact z8 (zo (zy R R ⟨_, R, hz, R, R⟩ qD qF))
end Cv
set_option maxRecDepth 10000
namespace Cv
open Go Go.Proofs

set_option maxHeartbeats 2000000 in
theorem add_spec {bs br bd bb bp bh ba tn : Nat} {k : Dk} {rs : List Rc} {pl : IvM} {hl al : SnM} {x : Tr} {p : Pt} {os : List Ob} {ta ra : Option Addr} {tl tc rc : Nat} (hwe : wrE x = 0) (hof : ofB x = (p, os, 0)) (hc : x.count ≤ 900000) (hsm : TAll Sm x) (htl : x.t.length ≤ 20000) (hnew : look pl (inN p []) = none) (hadd : ∀ e pl2, AddP pl (inT p []) e pl2 → e = 0) (hok : ∀ o ∈ (os ++ [((3, inN p [], inT p []) : Ob)]), ObOk o) (hln : (os ++ [((3, inN p [], inT p []) : Ob)]).length ≤ 100000) (hp2 : p.2 ≤ 4611686018427387904) (hpt : (inT p []).length ≤ 4095) (hs1 : sumC (os ++ [((3, inN p [], inT p []) : Ob)]) ≤ 1000000) (hsp : csts rs + sumC (os ++ [((3, inN p [], inT p []) : Ob)]) + cstB (inT p []).length ≤ hfN k.n) : Spec Tryz.prog 6 [.pointer (some ⟨bs, 0, none⟩), .agg (iRow x ta tl tc).toArray, .slice ra 0 rc] [cl k.bd 51 [.pointer (some ⟨k.bf, 0, none⟩), .slice (some ⟨k.sb, 0, none⟩) k.n k.n, .map (some k.bl)], cl br 128 (rgC bp bh ba), ifs pl, rtr x (eRow x ta tl tc), rsl 32 ra 0 rc (([] : List ID32).map iC)] [cl bs 66 [.pointer (some ⟨br, 0, none⟩), .pointer (some ⟨bd, 0, none⟩), .bool false], dpA bd bb k none tn rs, mp bp aK ivV pl, mp bh aK iK hl, mp ba aK iK al] (fun v D' M' => ∃ (pl2 : IvM), v = .tuple #[.agg (iC (inN p [])).toArray, .int .i64 0] ∧ (AddP pl (inT p []) 0 pl2) ∧ D' = [ifs pl2] ∧ M' = [cl bs 66 [.pointer (some ⟨br, 0, none⟩), .pointer (some ⟨bd, 0, none⟩), .bool false], dpA bd bb k none tn ((putR rs (os ++ [((3, inN p [], inT p []) : Ob)])) ++ [(2, inT p [])]), mp bp aK ivV pl2, mp bh aK iK hl, mp ba aK iK al]) := by
 refine zv (n := 102) Tryz.func6 ?_
 intro σ D M
 have hp32 := p.1.2
 have hob3 := obC_len ((3, oI 3 (inT p []), inT p []) : Ob)
 have hoi3 := (oI 3 (inT p [])).2
 have hnn := (inN p []).2
 have hnn3 := yw (inN p [])
 have hll : (os ++ [((3, inN p [], inT p []) : Ob)]).length = os.length + 1 := by rw [List.length_append, List.length_singleton]
 have hlb : ∀ o ∈ (os ++ [((3, inN p [], inT p []) : Ob)]), o.2.2.length ≤ 100000 := fun o ho => by have := (hok o ho).2.2.2; omega
 have hpc := @put_csts rs (os ++ [((3, inN p [], inT p []) : Ob)]) (os ++ [((3, inN p [], inT p []) : Ob)]).length (Nat.le_refl _)
 rw [List.take_length] at hpc
 have hz3 := ivZ_len pl (inN p [])
 have hz1 := @one_ivZ pl (inN p [])
 refine O (y6 R R R (fun b3 => ?_))
 refine y6 R R R (fun b4 => ?_)
 refine zC R ze38 (fun b6 => ?_)
 refine V R R (zu (zO (A := cl b3 24 [.pointer (some ⟨bs, 0, none⟩)]) qP ?_))
 refine zO (A := cl b4 44 (iRow x ta tl tc)) qP ?_
 refine z8 (ze (O (zf R sc24 R qC ?_)))
 refine zJ R R ?_
 refine zg R fo66_2 R ?_
 refine zf R sc4 R qC ?_
 refine I (zR R R ?_)
 refine zq (z8 (O (zx R yC R qN ?_)))
 refine E R R (zp R (ev2 R R) qD qS (iofo_spec hwe hof hc hsm htl) ?_)
 rintro _ _ _ ⟨ia, oa, ic, on, oc, rfl, hon, rfl, rfl⟩
 refine zm qA qA ?_
 have hin := inC_len p ia 0 ic
 refine E R R (zr R R R (zr R R R (zr R R R (zC R ze75 (fun b8 => ?_)))))
 refine zC R ze76 (fun b9 => ?_)
 refine zz yu R R qL qO qU qW ?_
 refine yj sc76 R R R qU qE ?_
 refine V R R (zu (zO (A := cl b8 75 (inC p ia 0 ic)) qP ?_))
 refine z8 (ze (O (E R R (zZ R R R (I (zR R (decide_eq_false (fun q => q R)) ?_))))))
 refine zq (z8 (O (zx R yu R qN ?_)))
 refine zH R (ev1 R) qD qS (iname_spec (l := []) (p := p) jD hp2) jF ?_
 refine zC R ze38 (fun b11 => ?_)
 refine zz zI R R qL qO qU qW ?_
 refine zu (zO (A := cl b11 38 (iC (inN p []))) qP ?_)
 refine z8 (ze (ze (yx (fun K' D' M' => K' = [(13, .bool (look pl (inN p [])).isSome)] ∧ D' = [] ∧ M' = [mp bp aK ivV pl]) (M0 := [mp bp aK ivV pl]) (.c 3 R <| .c 6 R <| .c 8 R <| .c 9 R <| .c 11 R <| zd _) qS ?_ ?_)))
 ·refine y7 (clsL [1, 1, 1, 2, 1, 2, 1, 1, 1, 2, 2, 1]) qk ?_
  refine z9 0 R R (zf R sc24 R qC ?_)
  refine z7 (yX (i := 1) R R qk qk qk R qD R ?_)
  refine z9 2 R R (zg R xr R ?_)
  refine z7 (z9 4 R R (zx R zI R qN ?_))
  refine z7 (yA (is := [3, 9]) qk jD (zU R ?_ <| zU R ?_ <| yB) )
  ·refine zf R sc63 R qC ?_
   refine zh R qD ?_
   refine yA (is := [5, 9]) qk jD (zU R ?_ <| zU R ?_ <| yB) 
   ·refine zp R (ev2 R R) qD qS (path_spec (pl := pl) (x := (inN p []))) ?_
    rintro _ _ _ ⟨rfl, rfl, rfl⟩
    refine zm qA qA ?_
    refine zh R qD ?_
    refine z9 6 R R (E R R (z7 (z9 7 R R (zr R R R (z7 (z9 8 R R (zr R R R (z7 (zi 9 R (zC R ze75 (fun b12 => ?_)))))))))))
    refine zh R qD ?_
    refine zi 10 R (zz yu R R qL qO qU qW ?_)
    refine zh R qD ?_
    refine z9 11 R R (V R R (z7 (zN qk ?_)))
    exact z8 (zK ⟨R, R, R⟩ (.c 13 R <| zd _) (.c 3 R <| .c 6 R <| .c 8 R <| .c 9 R <| .c 11 R <| zd _) qD qD qF)
   refine zC R ze75 (fun b12 => ?_)
   refine zh R qD ?_
   refine zi 5 R (zp R (ev2 R R) qD qS (path_spec (pl := pl) (x := (inN p []))) ?_)
   rintro _ _ _ ⟨rfl, rfl, rfl⟩
   refine zm qA qA ?_
   refine zh R qD ?_
   refine z9 6 R R (E R R (z7 (z9 7 R R (zr R R R (z7 (z9 8 R R (zr R R R (z7 (zi 10 R (zz yu R R qL qO qU qW ?_))))))))))
   refine zh R qD ?_
   refine z9 11 R R (V R R (z7 (zN qk ?_)))
   exact z8 (zK ⟨R, R, R⟩ (.c 13 R <| zd _) (.c 3 R <| .c 6 R <| .c 8 R <| .c 9 R <| .c 11 R <| zd _) qD qD qF)
  refine zC R ze75 (fun b12 => ?_)
  refine zh R qD ?_
  refine zi 3 R (zf R sc63 R qC ?_)
  refine zh R qD ?_
  refine zi 5 R (zp R (ev2 R R) qD qS (path_spec (pl := pl) (x := (inN p []))) ?_)
  rintro _ _ _ ⟨rfl, rfl, rfl⟩
  refine zm qA qA ?_
  refine zh R qD ?_
  refine z9 6 R R (E R R (z7 (z9 7 R R (zr R R R (z7 (z9 8 R R (zr R R R (z7 (zi 10 R (zz yu R R qL qO qU qW ?_))))))))))
  refine zh R qD ?_
  refine z9 11 R R (V R R (z7 (zN qk ?_)))
  exact z8 (zK ⟨R, R, R⟩ (.c 13 R <| zd _) (.c 3 R <| .c 6 R <| .c 8 R <| .c 9 R <| .c 11 R <| zd _) qD qD qF)
 rintro _ _ _ ⟨rfl, rfl, rfl⟩
 refine zM qA qA qA ?_
 refine z8 (O (E R R (I (zR R (by rw [hnew]; rfl) ?_))))
 refine zq (z8 (ze (ze (yx (fun K' D' M' => K' = [(14, .int .i64 0)] ∧ D' = [] ∧ M' = [cl bs 66 [.pointer (some ⟨br, 0, none⟩), .pointer (some ⟨bd, 0, none⟩), .bool false], mp bp aK ivV pl, mp bh aK iK hl, mp ba aK iK al]) (M0 := [cl bs 66 [.pointer (some ⟨br, 0, none⟩), .pointer (some ⟨bd, 0, none⟩), .bool false], mp bp aK ivV pl, mp bh aK iK hl, mp ba aK iK al]) (.c 3 R <| .c 6 R <| .c 8 R <| .c 9 R <| .c 11 R <| zd _) qS ?_ ?_))))
 ·refine y7 (clsL [1, 1, 1, 2, 2, 1, 2, 2, 1]) qk ?_
  refine z9 0 R R (zf R sc24 R qC ?_)
  refine z7 (yX (i := 1) R R qk qk qk R qD R ?_)
  refine z9 2 R R (zg R xr R ?_)
  refine z7 (z9 5 R R (zx R yu R qN ?_))
  refine z7 (zi 3 R (zf R sc63 R qC ?_))
  refine zh R qD ?_
  refine zi 4 R (zp R (ev1 R) qD qS (rgclone_spec (pl := pl) (hl := hl) (al := al)) ?_)
  rintro _ _ _ ⟨b2, p2, h2, a2, rfl, rfl, rfl⟩
  refine zm qA qA ?_
  refine zh R qD ?_
  refine zi 6 R (zH R (ev1 R) qD qS (adds_spec (l := []) (p := p) jD hp2) jF ?_)
  refine zh R qD ?_
  refine zi 7 R (zp R (ev2 R R) qD qS (do2_spec (pl := pl) (hl := hl) (al := al) (s := inT p []) jO) ?_)
  rintro _ _ _ ⟨e, pl1, rfl, hadd1, rfl, rfl⟩
  refine zm qA qA ?_
  obtain rfl := hadd _ _ hadd1
  refine zh R qD ?_
  refine z9 8 R R (V R R (z7 (zN qk ?_)))
  exact z8 (zK ⟨R, R, R⟩ (.c 14 R <| zd _) (.c 3 R <| .c 6 R <| .c 8 R <| .c 9 R <| .c 11 R <| zd _) qD qD qF)
 rintro _ _ _ ⟨rfl, rfl, rfl⟩
 refine zM qA qA qA ?_
 refine z8 (O (E R R (zZ R R R (I (zR R (decide_eq_false (fun q => q R)) ?_)))))
 refine zq (z8 (ze (y7 (clsL [0, 0, 0, 0, 0, 2, 2]) qk ?_)))
 refine zY (i := 0) R R R R qk qk qk qk R qD qF ?_
 refine zf R sc76 R qC ?_
 refine z7 (zY (i := 1) R R R R qk qk qk qk R qD qF ?_)
 refine zx R yu R qN ?_
 refine z7 (zi 2 R (zH R (ev1 R) qD qS (itext_spec (l := []) (p := p) jD hp2) jF ?_))
 refine yH R qD qF ?_
 refine zi 3 R (zH R (ev2 R R) qD qS (make_spec (k := 3) (tx := inT p []) jO) jF ?_)
 refine yH R qD qF ?_
 refine zi 4 R (yl R bs76 jD (yG R R j1 (Nat.le_of_ble_eq_true R) qR <| zQ (out := []) R) (fun b64 => ?_))
 refine yH R qD qF ?_
 refine zi 5 R (x6 R xF el88 R R qP qM (by rw [List.append_nil]; exact hob3) (fun u hu => by rw [List.append_nil] at hu; exact one_ob u hu) qI qI (fun a65 c65 => ?_))
 refine L.ownEq _ ((os ++ [((3, inN p [], inT p []) : Ob)]).map obC) qP (by rw [List.map_append, List.append_nil]; rfl) ?_
 refine zh R qD ?_
 refine zi 6 R (yj sc76 R R R qU qE ?_)
 refine zh R qD ?_
 refine zN qk ?_
 refine zO (A := cl b9 76 [.slice a65 (on + 1) c65]) qP ?_
 refine yQ (rows := (os ++ [((3, inN p [], inT p []) : Ob)]).map obC) qP ?_
 refine z8 (O (xP R (ev3 R R R) ?_))
 refine V R R (zu ?_)
 skip
 refine z8 (ze (ze (y7 (clsL [1, 1, 2, 2, 1]) qk ?_)))
 refine z9 0 R R (zf R sc24 R qC ?_)
 refine z7 (z9 1 R R (E R R (z7 (zi 2 R (L.callV R R (xu) qD qS (addn_spec (l := (os ++ [((3, inN p [], inT p []) : Ob)])) hs1 jO hlb hp2 jO) ?_)))))
 rintro _ _ _ ⟨z, rfl, hz, rfl, rfl⟩
 refine zm qA qA ?_
 refine zh R qD ?_
 refine zi 3 R (zH R (ev3 R R R) qD qS (room_spec (z := z) (rs := rs) jO) jF ?_)
 refine zh R qD ?_
 refine z9 4 R R (V R R (z7 (zN qk ?_)))
 refine z8 (O (E R R (zZ R R R (I (zR R (decide_eq_false (fun q => q R)) ?_)))))
 refine zq (z8 (ze (ze (yx (fun K' D' M' => K' = [(79, .bool false)] ∧ D' = [] ∧ M' = [cl bs 66 [.pointer (some ⟨br, 0, none⟩), .pointer (some ⟨bd, 0, none⟩), .bool false], dpA bd bb k none tn rs]) (M0 := [cl bs 66 [.pointer (some ⟨br, 0, none⟩), .pointer (some ⟨bd, 0, none⟩), .bool false], dpA bd bb k none tn rs]) (.c 3 R <| .c 6 R <| .c 8 R <| .c 9 R <| .c 11 R <| zd _) qS ?_ ?_))))
 ·refine y7 (clsL [1, 2, 1, 2, 1]) qk ?_
  refine z9 0 R R (E R R (z7 (z9 2 R R (zf R sc24 R qC ?_))))
  refine z7 (zi 1 R (L.callV R R (xu) qD qS (addn_spec (l := (os ++ [((3, inN p [], inT p []) : Ob)])) hs1 jO hlb hp2 jO) ?_))
  rintro _ _ _ ⟨z, rfl, hz, rfl, rfl⟩
  refine zm qA qA ?_
  refine zh R qD ?_
  refine zi 3 R (zH R (ev1 R) qD qS (sfree_spec (f := none)) jF ?_)
  refine zh R qD ?_
  refine z9 4 R R (yy R R R (zE (t := 79) (u := .bool false) R (congrArg Value.bool (decide_eq_false jO)) ?_))
  refine z7 (zN qk ?_)
  exact z8 (zK ⟨R, R, R⟩ (.c 79 R <| zd _) (.c 3 R <| .c 6 R <| .c 8 R <| .c 9 R <| .c 11 R <| zd _) qD qD qF)
 rintro _ _ _ ⟨rfl, rfl, rfl⟩
 refine zM qA qA qA ?_
 refine z8 (zR R R ?_)
 refine zq (z8 (ze (ze (y7 (clsL [0, 0, 1, 0, 0, 2, 1]) qk ?_))))
 refine zY (i := 0) R R R R qk qk qk qk R qD qF ?_
 refine zf R sc24 R qC ?_
 refine z7 (yE (i := 1) R R qk qk qk qk R qD qF R ?_)
 refine z9 2 R R (zg R fo66_1 R ?_)
 refine z7 (zY (i := 3) R R R R qk qk qk qk R qD qF ?_)
 refine zf R sc64 R qC ?_
 refine z7 (zY (i := 4) R R R R qk qk qk qk R qD qF ?_)
 refine zf R sc76 R qC ?_
 refine z7 (zi 5 R (zp R (ev2 R R) qD qS (dput_spec (l := (os ++ [((3, inN p [], inT p []) : Ob)])) hok jO jO) ?_))
 rintro _ _ _ ⟨rfl, rfl, rfl⟩
 refine zm qA qA ?_
 refine zh R qD ?_
 refine z9 6 R R (V R R (z7 (zN qk ?_)))
 refine z8 (O (E R R (zZ R R R (I (zR R (decide_eq_false (fun q => q R)) ?_)))))
 refine zq (z8 (ze (ze (y7 (clsL [1, 1, 2, 2, 1]) qk ?_))))
 refine z9 0 R R (zf R sc24 R qC ?_)
 refine z7 (z9 1 R R (zx R yu R qN ?_))
 refine z7 (zi 2 R (zH R (ev1 R) qD qS (adds_spec (l := []) (p := p) jD hp2) jF ?_))
 refine zh R qD ?_
 refine zi 3 R (zp R (ev3 R R R) qD qS (note2_spec (pl := pl) (hl := hl) (al := al) (s := inT p []) (rs := (putR rs (os ++ [((3, inN p [], inT p []) : Ob)]))) ⟨by show 1 ≤ 2; decide, by show 2 ≤ 200; decide, by show (inT p []).length ≤ 4096; omega⟩ hadd jO jO) ?_)
 rintro _ _ _ ⟨pl2, rfl, haddf, rfl, rfl⟩
 refine zm qA qA ?_
 refine zh R qD ?_
 refine z9 4 R R (V R R (z7 (zN qk ?_)))
 refine z8 (O (E R R (zZ R R R (I (zR R (decide_eq_false (fun q => q R)) ?_)))))
 refine zq (z8 (O (zx R zI R qN ?_)))
 refine zz zI R R qL qO qU qW ?_
 exact V R R (I (zo (yW R zI R qN R ⟨_, R, haddf, R, R⟩ qD qF)))
end Cv
set_option maxRecDepth 10000
namespace Cv
open Go Go.Proofs
def trF (z : Int) (s : List UInt8) : Tr × Int := if (s.length : Int) ≠ z then (.mk [] 0 [] [], 2) else parF s

theorem itree_spec {a : Option Addr} {n c : Nat} {p : Pt} {s : List UInt8} (hs : s.length ≤ 1000000000) : Spec Tryz.prog 107 [.agg (inC p a n c).toArray, S s] [] [] (fun v D' M' => ∃ (a' : Option Addr) (len' cap' : Nat), v = .tuple #[.agg (iRow (trF p.2 s).1 a' len' cap').toArray, .int .i64 (trF p.2 s).2] ∧ D' = [rtr (trF p.2 s).1 (eRow (trF p.2 s).1 a' len' cap')] ∧ M' = []) := by
 refine zv (n := 17) Tryz.func107 ?_
 intro σ D M
 have hp3 := inC_len p a n c
 have hp32 := p.1.2
 refine O (y6 R R R (fun b2 => ?_))
 refine zC R ze44 (fun b4 => ?_)
 refine V R R (zu (zO (A := cl b2 75 (inC p a n c)) qP ?_))
 refine z8 (ze (O (E R R (yL R ye R (zg R fo75_0 R ?_)))))
 refine zg R fo73_1 R ?_
 refine zf R sc3 R qC ?_
 refine zZ R R R (I (zA R (fun h11 => ?_) (fun h11 => ?_)))
 ·try simp only [dq] at h11
  refine O (yq R bu44 (zQ (out := [Value.int .i64 0, S [], Value.slice none 0 0]) R) ?_)
  refine zz yC R R qL qO qU qW ?_
  refine V R R (I (zo (zL ?_)))
  have e0 : trF p.2 s = (.mk [] 0 [] [], 2) := if_pos h11
  rw [e0]
  refine T.fact0 (φ := rtr (.mk [] 0 [] []) (eRow (.mk [] 0 [] []) none 0 0)) (fun z => rt_leaf) ?_
  exact yW R yC R qN R ⟨none, 0, 0, R, R, R⟩ qD qF
 try simp only [dq] at h11
 refine zq (z8 (O (E R R (zp R (ev1 R) qD qS (parse_spec (s := s) hs) ?_))))
 rintro _ _ _ ⟨pa, pl, pc, rfl, rfl, rfl⟩
 refine zm qA qA ?_
 refine zr R R R (zr R R R (zz yC R R qL qO qU qW ?_))
 refine V R R (I (zo ?_))
 have e0 : trF p.2 s = parF s := if_neg h11
 rw [e0]
 exact yW R yC R qN R ⟨_, _, _, R, R, R⟩ qD qF
theorem stree_spec {bs br bd bb tn : Nat} {k : Dk} {rs : List Rc} {y : Tr} {p : Pt} {os : List Ob} {s : List UInt8} {a : Option Addr} {c : Nat} (hwv : ∀ r, WvR (osR rs) [(p, -1)] [] r → r = (s, 0)) (htr : trF p.2 s = (y, 0)) (hwe : wrE y = 0) (hof : ofB y = (p, os, 0)) (hc : y.count ≤ 900000) (hsm : TAll Sm y) (htl : y.t.length ≤ 20000) (hp : 1 ≤ p.2 ∧ p.2 ≤ 32768) (hsh : Shf (osR rs)) (hsl : s.length ≤ 1000000000) : Spec Tryz.prog 57 [.pointer (some ⟨bs, 0, none⟩), .agg (inC p a 0 c).toArray] [cl k.bd 51 [.pointer (some ⟨k.bf, 0, none⟩), .slice (some ⟨k.sb, 0, none⟩) k.n k.n, .map (some k.bl)], rsl 32 a 0 c (([] : List ID32).map iC)] [cl bs 66 [.pointer (some ⟨br, 0, none⟩), .pointer (some ⟨bd, 0, none⟩), .bool false], dpA bd bb k none tn rs] (fun v D' M' => ∃ (a' : Option Addr) (n' c' : Nat), v = .tuple #[.agg (iRow y a' n' c').toArray, .int .i64 0] ∧ D' = [rtr y (eRow y a' n' c')] ∧ M' = [cl bs 66 [.pointer (some ⟨br, 0, none⟩), .pointer (some ⟨bd, 0, none⟩), .bool false], dpA bd bb k none tn rs]) := by
 refine zv (n := 52) Tryz.func57 ?_
 intro σ D M
 have hp3 := inC_len p a 0 c
 have hp32 := p.1.2
 have hpp3 := ptC_len p
 have hnn := (inN p []).2
 have hnn3 := yw (inN p [])
 refine O (y6 R R R (fun b2 => ?_))
 refine y6 R R R (fun b3 => ?_)
 refine zC R ze44 (fun b4 => ?_)
 refine V R R (zu (zO (A := cl b2 24 [.pointer (some ⟨bs, 0, none⟩)]) qP ?_))
 refine zO (A := cl b3 75 (inC p a 0 c)) qP ?_
 refine z8 (O (zg R fo75_0 R ?_))
 refine zx R ag73 R (CellsN.ofF qM (at_pt _ _ _ _)) ?_
 refine xP R (ev1 R) ?_
 refine zp R (ev2 R R) qD qS (wall_spec (os := osR rs) (p := p) hp hsh R) ?_
 rintro _ _ _ ⟨r, rfl, hwr, rfl, rfl⟩
 refine zm qA qA ?_
 obtain rfl := hwv _ hwr
 refine E R R (zr R R R (zr R R R (V R R (V R R (I (ze (O (E R R (zZ R R R (I (zR R (decide_eq_false (fun q => q R)) ?_)))))))))))
 refine zq (z8 (O (zx R yu R qN ?_)))
 refine E R R (zp R (ev2 R R) qD qS (itree_spec (p := p) (s := s) hsl) ?_)
 rintro _ _ _ ⟨ya, yn, yc, rfl, rfl, rfl⟩
 refine zm qA qA ?_
 rw [htr]
 refine E R R (zr R R R (zr R R R (zC R ze44 (fun b8 => ?_))))
 refine zz yC R R qL qO qU qW ?_
 refine V R R (zu (zO (A := cl b8 44 (iRow y ya yn yc)) qP ?_))
 refine z8 (ze (O (E R R (zZ R R R (I (zR R (decide_eq_false (fun q => q R)) ?_))))))
 refine zq (z8 (ze (O (zx R yC R qN ?_))))
 refine zg R fo75_1 R ?_
 refine zf R sc32 R qC ?_
 refine zp R (ev2 R R) qD qS (iofo_spec (x := y) hwe hof hc hsm htl) ?_
 rintro _ _ _ ⟨ia, oa, ic, on, oc, rfl, hon, rfl, rfl⟩
 refine zm qA qA ?_
 have hin := inC_len p ia 0 ic
 refine E R R (zr R R R (zr R R R (zr R R R (zC R ze75 (fun b9 => ?_)))))
 refine zz yu R R qL qO qU qW ?_
 refine V R R (V R R (zu (zO (A := cl b9 75 (inC p ia 0 ic)) qP ?_)))
 refine z8 (ze (xg qk qk (E R R (zZ R R R (E R R (zE (t := 43) R (show _ = Value.bool false from congrArg Value.bool (decide_eq_false (fun q => q R))) ?_))))))
 refine zj 43 R R R (zx R yu R qN ?_)
 refine zj 43 R R R (zH R (ev1 R) qD qS (iname_spec (l := []) (p := p) jD jO) jF ?_)
 refine zj 43 R R R (zx R yu R qN ?_)
 refine zj 43 R R R (zH R (ev1 R) qD qS (iname_spec (l := []) (p := p) jD jO) jF ?_)
 refine zj 43 R R R (L.neqArrI qk R yf zX sc5 R R qL qL ?_)
 refine yg R R R (yY (z8 (zR R (by simp) ?_)))
 refine zq (z8 (O (zx R yC R qN ?_)))
 refine zz yC R R qL qO qU qW ?_
 exact V R R (I (zo (yW R yC R qN R ⟨_, _, _, R, R, R⟩ qD qF)))
theorem sread_spec {bs br bd bb bp bh ba tn : Nat} {k : Dk} {rs : List Rc} {pl : IvM} {y : Tr} {p : Pt} {os : List Ob} {s : List UInt8} {qa : Option Addr} {qc : Nat} {x : ID32} (hlk : look pl x = some ((p, []), (qa, 0, qc))) (hwv : ∀ r, WvR (osR rs) [(p, -1)] [] r → r = (s, 0)) (htr : trF p.2 s = (y, 0)) (hwe : wrE y = 0) (hof : ofB y = (p, os, 0)) (hc : y.count ≤ 900000) (hsm : TAll Sm y) (htl : y.t.length ≤ 20000) (hp : 1 ≤ p.2 ∧ p.2 ≤ 32768) (hsh : Shf (osR rs)) (hsl : s.length ≤ 1000000000) : Spec Tryz.prog 21 [.pointer (some ⟨bs, 0, none⟩), .agg (iC x).toArray] [cl k.bd 51 [.pointer (some ⟨k.bf, 0, none⟩), .slice (some ⟨k.sb, 0, none⟩) k.n k.n, .map (some k.bl)], cl br 128 (rgC bp bh ba), ifs pl] [cl bs 66 [.pointer (some ⟨br, 0, none⟩), .pointer (some ⟨bd, 0, none⟩), .bool false], dpA bd bb k none tn rs, mp bp aK ivV pl] (fun v D' M' => ∃ (a' a2 : Option Addr) (n' c' c2 : Nat), v = .tuple #[.agg (iRow y a' n' c').toArray, .slice a2 0 c2, .int .i64 0] ∧ D' = [rtr y (eRow y a' n' c')] ∧ M' = [cl bs 66 [.pointer (some ⟨br, 0, none⟩), .pointer (some ⟨bd, 0, none⟩), .bool false], dpA bd bb k none tn rs, mp bp aK ivV pl]) := by
 refine zv (n := 37) Tryz.func21 ?_
 intro σ D M
 have hx2 := x.2
 have hx3 := yw x
 have hiv : ivZ pl x = inC p qa 0 qc := ivZ_some hlk
 have hin := inC_len p qa 0 qc
 have hp32 := p.1.2
 refine T.fcsIn (L := pl.map iF) qM (iF_in (xR hlk)) ?_
 refine O (y6 R R R (fun b3 => ?_))
 refine zC R ze44 (fun b4 => ?_)
 refine V R R (V R R (zu (zO (A := cl b3 38 (iC x)) qP ?_)))
 refine z8 (ze (yx (fun K' D' M' => ∃ (b7 : Nat), K' = [(7, .pointer (some ⟨b7, 0, none⟩)), (8, .bool true)] ∧ D' = [cl b7 75 (inC p qa 0 qc)] ∧ M' = [cl bs 66 [.pointer (some ⟨br, 0, none⟩), .pointer (some ⟨bd, 0, none⟩), .bool false], mp bp aK ivV pl]) (M0 := [cl bs 66 [.pointer (some ⟨br, 0, none⟩), .pointer (some ⟨bd, 0, none⟩), .bool false], mp bp aK ivV pl]) (.c 0 R <| .c 4 R <| zd _) qS ?_ ?_))
 ·refine y7 (clsL [1, 1, 1, 2, 1, 2, 1, 1, 1, 2, 2, 1]) qk ?_
  refine z9 0 R R (E R R (z7 (yX (i := 1) R R qk qk qk R qD R ?_)))
  refine z9 2 R R (zg R xr R ?_)
  refine z7 (z9 4 R R (zx R zI R qN ?_))
  refine z7 (yA (is := [3, 9]) qk jD (zU R ?_ <| zU R ?_ <| yB) )
  ·refine zf R sc63 R qC ?_
   refine zh R qD ?_
   refine yA (is := [5, 9]) qk jD (zU R ?_ <| zU R ?_ <| yB) 
   ·refine zp R (ev2 R R) qD qS (path_spec (pl := pl) (x := x)) ?_
    rintro _ _ _ ⟨rfl, rfl, rfl⟩
    refine zm qA qA ?_
    rw [hiv, show (look pl x).isSome = true from by rw [hlk]; rfl]
    refine zh R qD ?_
    refine z9 6 R R (E R R (z7 (z9 7 R R (zr R R R (z7 (z9 8 R R (zr R R R (z7 (zi 9 R (zC R ze75 (fun b7 => ?_)))))))))))
    refine zh R qD ?_
    refine zi 10 R (zz yu R R qL qO qU qW ?_)
    refine zh R qD ?_
    refine z9 11 R R (V R R (z7 (zN qk ?_)))
    refine zO (A := cl b7 75 (inC p qa 0 qc)) qP ?_
    exact z8 (zK ⟨_, R, R, R⟩ (.c 7 R <| .c 8 R <| zd _) (.c 0 R <| .c 4 R <| zd _) qD qD qF)
   refine zC R ze75 (fun b7 => ?_)
   refine zh R qD ?_
   refine zi 5 R (zp R (ev2 R R) qD qS (path_spec (pl := pl) (x := x)) ?_)
   rintro _ _ _ ⟨rfl, rfl, rfl⟩
   refine zm qA qA ?_
   rw [hiv, show (look pl x).isSome = true from by rw [hlk]; rfl]
   refine zh R qD ?_
   refine z9 6 R R (E R R (z7 (z9 7 R R (zr R R R (z7 (z9 8 R R (zr R R R (z7 (zi 10 R (zz yu R R qL qO qU qW ?_))))))))))
   refine zh R qD ?_
   refine z9 11 R R (V R R (z7 (zN qk ?_)))
   refine zO (A := cl b7 75 (inC p qa 0 qc)) qP ?_
   exact z8 (zK ⟨_, R, R, R⟩ (.c 7 R <| .c 8 R <| zd _) (.c 0 R <| .c 4 R <| zd _) qD qD qF)
  refine zC R ze75 (fun b7 => ?_)
  refine zh R qD ?_
  refine zi 3 R (zf R sc63 R qC ?_)
  refine zh R qD ?_
  refine zi 5 R (zp R (ev2 R R) qD qS (path_spec (pl := pl) (x := x)) ?_)
  rintro _ _ _ ⟨rfl, rfl, rfl⟩
  refine zm qA qA ?_
  rw [hiv, show (look pl x).isSome = true from by rw [hlk]; rfl]
  refine zh R qD ?_
  refine z9 6 R R (E R R (z7 (z9 7 R R (zr R R R (z7 (z9 8 R R (zr R R R (z7 (zi 10 R (zz yu R R qL qO qU qW ?_))))))))))
  refine zh R qD ?_
  refine z9 11 R R (V R R (z7 (zN qk ?_)))
  refine zO (A := cl b7 75 (inC p qa 0 qc)) qP ?_
  exact z8 (zK ⟨_, R, R, R⟩ (.c 7 R <| .c 8 R <| zd _) (.c 0 R <| .c 4 R <| zd _) qD qD qF)
 rintro _ _ _ ⟨b7, rfl, rfl, rfl⟩
 refine zM qA qA qA ?_
 refine z8 (ze (O (E R R (x7 R R (I (zR R R ?_))))))
 refine zq (z8 (O (E R R (zx R yu R qN ?_))))
 refine zp R (ev2 R R) qD qS (stree_spec hwv htr hwe hof hc hsm htl hp hsh hsl) ?_
 rintro _ _ _ ⟨ya, yn, yc, rfl, rfl, rfl⟩
 refine zm qA qA ?_
 refine E R R (zr R R R (zr R R R (zC R ze44 (fun b9 => ?_))))
 refine zz yC R R qL qO qU qW ?_
 refine V R R (zu (zO (A := cl b9 44 (iRow y ya yn yc)) qP ?_))
 refine z8 (ze (O (E R R (zZ R R R (I (zR R (decide_eq_false (fun q => q R)) ?_))))))
 refine zq (z8 (ze (y7 (clsL [1, 1, 1, 2, 2, 1, 1]) qk ?_)))
 refine z9 0 R R (zx R yC R qN ?_)
 refine z7 (z9 1 R R (zg R fo75_1 R ?_))
 refine z7 (z9 2 R R (zf R sc32 R qC ?_))
 refine z7 (zi 3 R (zp R (ev1 R) qD qS (clone_spec (xs := []) jD) ?_))
 rintro _ _ _ ⟨ca, cl_, cc, rfl, hcl, rfl, rfl⟩
 refine zm qA qA ?_
 subst hcl
 refine zh R qD ?_
 refine zi 4 R (zz yC R R qL qO qU qW ?_)
 refine zh R qD ?_
 refine z9 5 R R (V R R (z7 (z9 6 R R (V R R (z7 (zN qk ?_))))))
 exact z8 (zo (T.retATT R yC R qN R R ⟨_, _, _, _, _, R, R, R⟩ qD qF))
end Cv
