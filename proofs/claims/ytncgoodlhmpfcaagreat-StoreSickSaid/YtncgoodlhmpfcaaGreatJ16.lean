/-
  The walks: stores: notes.
-/
import Derived.Test.YtncgoodlhmpfcaaGreatI16
set_option linter.all false
set_option maxHeartbeats 400000
set_option maxRecDepth 10000
namespace Cv
open Go Go.Proofs
/-! ## stores: the plain model -/
structure NtP (f : Fz) (rs : List Rc) (r : Rc) (hl hl1 : SnM) (e : Int) (f2 : Fz) (rs2 : List Rc) (hl2 : SnM) (sk2 : Bool) : Prop where
  ok : f = none → e = 0 ∧ f2 = none ∧ rs2 = rs ++ [r] ∧ hl2 = hl1 ∧ sk2 = false
  io : f = some 0 ∨ f = some 1 → e = 13 ∧ hl2 = hl ∧ sk2 = true
theorem rcF_len {f : Fz} {k : Nat} {d : List UInt8} {p : Nat} : (rcF f k d p).length = 3 := by unfold rcF; split <;> rfl
theorem rcF_one {f : Fz} {k : Nat} {d : List UInt8} {p : Nat} : ∀ u ∈ rcF f k d p, u.oneCell' = true := by
  unfold rcF
  split
  · intro u hu
    simp only [List.mem_cons, List.not_mem_nil, or_false] at hu
    rcases hu with rfl | rfl | rfl <;> rfl
  · exact one_rc (r := ((k, d), (p : Int)))

theorem sfree_spec {bs br bd bb tn : Nat} {k : Dk} {f : Fz} {rs : List Rc} {sk : Bool}   : Spec Tryz.prog 20 [.pointer (some ⟨bs, 0, none⟩)] [cl k.bd 51 [.pointer (some ⟨k.bf, 0, none⟩), .slice (some ⟨k.sb, 0, none⟩) k.n k.n, .map (some k.bl)]] [cl bs 66 [.pointer (some ⟨br, 0, none⟩), .pointer (some ⟨bd, 0, none⟩), .bool sk], dpA bd bb k f tn rs] (fun v D' M' => v = .int .i64 (hfN k.n - csts rs : Nat) ∧ D' = [] ∧ M' = [cl bs 66 [.pointer (some ⟨br, 0, none⟩), .pointer (some ⟨bd, 0, none⟩), .bool sk], dpA bd bb k f tn rs]) := by
 refine zv (n := 11) Tryz.func20 ?_
 intro σ D M
 refine T.dpU qP (fun m hu => ?_)
 refine T.bkU qP (fun x hx => ?_)
 obtain ⟨h1, h2, h3, h4, h5, h6, h7⟩ := id hx
 have hen := hx.en
 refine O (V R R (I (O (E R R (zJ R R ?_)))))
 refine zg R fo66_1 R ?_
 refine zf R sc64 R qC ?_
 refine zJ R R ?_
 refine zg R fo121_0 R ?_
 refine zf R sc114 R qC ?_
 refine zH R (ev1 R) qD qS (left_spec (e := x.e) jO h6 h3) jF ?_
 refine V R R (I (zo (T.bkF (cur := x.cur) (pv := x.pv) (e := x.e) (sm := x.sm) (bp := x.bp) (hx) qS ?_)))
 refine T.dpF (m := m) (hu) qS ?_
 exact zy R R ⟨congrArg (Value.int .i64) (by rw [hen]; omega), R, R⟩ qD qF
theorem sfails_spec {bs br bd : Nat} {sk : Bool} {e : Int}  : Spec Tryz.prog 37 [.pointer (some ⟨bs, 0, none⟩), .int .i64 e] [] [cl bs 66 [.pointer (some ⟨br, 0, none⟩), .pointer (some ⟨bd, 0, none⟩), .bool sk]] (fun v D' M' => v = .int .i64 e ∧ D' = [] ∧ M' = [cl bs 66 [.pointer (some ⟨br, 0, none⟩), .pointer (some ⟨bd, 0, none⟩), .bool (sk || decide (e = 13))]]) := by
 refine zv (n := 17) Tryz.func37 ?_
 intro σ D M
 refine O (V R R (I (ze (yx (fun K' D' M' => K' = [] ∧ D' = [] ∧ M' = [cl bs 66 [.pointer (some ⟨br, 0, none⟩), .pointer (some ⟨bd, 0, none⟩), .bool (sk || decide (e = 13))]]) (M0 := [cl bs 66 [.pointer (some ⟨br, 0, none⟩), .pointer (some ⟨bd, 0, none⟩), .bool sk]]) (.c 1 R <| zd _) qS ?_ ?_))))
 ·refine zt (E R R (E R R (zJ R R ?_)))
  refine zg R fo66_2 R ?_
  refine zf R sc4 R qC ?_
  refine E R R (yT (t := 10) R (fun h1 => ?_) (fun h1 => ?_))
  ·try simp only [dq] at h1
   refine zw 10 true R R R R R jD (zw 10 true R R R R R jD (ym R R R (zE (t := 13) (u := .bool (sk || decide (e = 13))) R (by simp_all) ?_)))
   refine zJ R R ?_
   refine zg R fo66_2 R ?_
   refine yj sc4 R R R qU qE ?_
   exact I (zK ⟨R, R, R⟩ (zd _) (.c 1 R <| zd _) qD qD qF)
  try simp only [dq] at h1
  refine zj 10 R R R (E R R (zj 10 R R R (yi R R R (yg R R R (zE (t := 13) (u := .bool (sk || decide (e = 13))) R (by simp_all) ?_)))))
  refine zJ R R ?_
  refine zg R fo66_2 R ?_
  refine yj sc4 R R R qU qE ?_
  exact I (zK ⟨R, R, R⟩ (zd _) (.c 1 R <| zd _) qD qD qF)
 rintro _ _ _ ⟨rfl, rfl, rfl⟩
 refine zM qA qA qA ?_
 exact z8 (O (E R R (V R R (I (zo (zy R R ⟨R, R, R⟩ qD qF))))))
theorem room_spec {bs br bd bb tn z : Nat} {k : Dk} {rs : List Rc} {sk : Bool} {a : Value} (hz : z ≤ hfN k.n - csts rs) : Spec Tryz.prog 35 [.pointer (some ⟨bs, 0, none⟩), .int .i64 (z : Int), a] [cl k.bd 51 [.pointer (some ⟨k.bf, 0, none⟩), .slice (some ⟨k.sb, 0, none⟩) k.n k.n, .map (some k.bl)]] [cl bs 66 [.pointer (some ⟨br, 0, none⟩), .pointer (some ⟨bd, 0, none⟩), .bool sk], dpA bd bb k none tn rs] (fun v D' M' => v = .int .i64 0 ∧ D' = [] ∧ M' = [cl bs 66 [.pointer (some ⟨br, 0, none⟩), .pointer (some ⟨bd, 0, none⟩), .bool sk], dpA bd bb k none tn rs]) := by
 refine zv (n := 22) Tryz.func35 ?_
 intro σ D M
 refine O (V R R (I (ze (O (E R R (E R R (zH R (ev1 R) qD qS (sfree_spec (f := none)) jF ?_)))))))
 refine L.leI R R R (I (yV R (decide_eq_true jO) ?_))
 exact O (V R R (I (zo (zL (zy R R ⟨R, R, R⟩ qD qF)))))
theorem roomf_spec {bs br bd bb tn z : Nat} {k : Dk} {f : Fz} {rs : List Rc} {sk : Bool} {a : Value} (hz : z ≤ hfN k.n - csts rs) : Spec Tryz.prog 35 [.pointer (some ⟨bs, 0, none⟩), .int .i64 (z : Int), a] [cl k.bd 51 [.pointer (some ⟨k.bf, 0, none⟩), .slice (some ⟨k.sb, 0, none⟩) k.n k.n, .map (some k.bl)]] [cl bs 66 [.pointer (some ⟨br, 0, none⟩), .pointer (some ⟨bd, 0, none⟩), .bool sk], dpA bd bb k f tn rs] (fun v D' M' => v = .int .i64 0 ∧ D' = [] ∧ M' = [cl bs 66 [.pointer (some ⟨br, 0, none⟩), .pointer (some ⟨bd, 0, none⟩), .bool sk], dpA bd bb k f tn rs]) := by
 refine zv (n := 22) Tryz.func35 ?_
 intro σ D M
 refine O (V R R (I (ze (O (E R R (E R R (zH R (ev1 R) qD qS (sfree_spec) jF ?_)))))))
 refine L.leI R R R (I (yV R (decide_eq_true jO) ?_))
 exact O (V R R (I (zo (zL (zy R R ⟨R, R, R⟩ qD qF)))))
theorem note5_spec {bs br bd bb bp bh ba tn : Nat} {k : Dk} {rs : List Rc} {pl : IvM} {hl al : SnM} {x : ID32} (hrc : RcOk (5, x.1)) (hx : look hl x ≠ none) (hsp : cstB x.1.length ≤ hfN k.n - csts rs) (hs0 : csts rs ≤ hfN k.n) : Spec Tryz.prog 38 [.pointer (some ⟨bs, 0, none⟩), .agg #[.int .i64 5, S x.1, .int .i64 0], .slice none 0 0] [cl br 128 (rgC bp bh ba), cl k.bd 51 [.pointer (some ⟨k.bf, 0, none⟩), .slice (some ⟨k.sb, 0, none⟩) k.n k.n, .map (some k.bl)]] [cl bs 66 [.pointer (some ⟨br, 0, none⟩), .pointer (some ⟨bd, 0, none⟩), .bool false], dpA bd bb k none tn rs, mp bp aK ivV pl, mp bh aK iK hl, mp ba aK iK al] (fun v D' M' => v = .int .i64 0 ∧ D' = [] ∧ M' = [cl bs 66 [.pointer (some ⟨br, 0, none⟩), .pointer (some ⟨bd, 0, none⟩), .bool false], dpA bd bb k none tn (rs ++ [(5, x.1)]), mp bp aK ivV pl, mp bh aK iK (del hl x), mp ba aK iK al]) := by
 refine zv (n := 78) Tryz.func38 ?_
 intro σ D M
 have hro := (show RcOk (5, x.1) from hrc)
 have hrd : (x.1).length ≤ 4096 := hro.2.2
 have hrl := @rcF_len none 5 (x.1) (bsN k.n tn + csts rs)
 have hr1 := @rcF_one none 5 (x.1) (bsN k.n tn + csts rs)
 refine O (y6 R R R (fun b4 => ?_))
 refine V R R (zu (zO (A := cl b4 85 [.int .i64 5, S x.1, .int .i64 0]) qP ?_))
 refine z8 (ze (O (E R R (zJ R R ?_))))
 refine zg R fo66_2 R ?_
 refine zf R sc4 R qC ?_
 refine I (zR R R ?_)
 refine zq (z8 (ze (ze (y7 (clsL [1, 1, 1, 2, 2, 1, 2, 1]) qk ?_))))
 refine z9 0 R R (E R R (z7 (yX (i := 1) R R qk qk qk R qD R ?_)))
 refine z9 2 R R (zg R xr R ?_)
 refine z7 (z9 5 R R (zx R yD R qN ?_))
 refine z7 (zi 3 R (zf R sc63 R qC ?_))
 refine zh R qD ?_
 refine zi 4 R (zp R (ev1 R) qD qS (rgclone_spec (pl := pl) (hl := hl) (al := al)) ?_)
 rintro _ _ _ ⟨b2, p2, h2, a2, rfl, rfl, rfl⟩
 refine zm qA qA ?_
 refine zh R qD ?_
 refine zi 6 R (zp R (ev2 R R) qD qS (do5_spec (pl := pl) (hl := hl) (x := x) hx) ?_)
 rintro _ _ _ ⟨rfl, rfl, rfl⟩
 refine zm qA qA ?_
 refine zh R qD ?_
 refine z9 7 R R (V R R (z7 (zN qk ?_)))
 refine z8 (O (E R R (zZ R R R (I (zR R (decide_eq_false (fun q => q R)) ?_)))))
 refine zq (z8 (ze (O (E R R (zg R fo85_1 R ?_)))))
 refine zf R sc9 R qC ?_
 refine yL R ye R (zH R (ev1 R) qD qS (cost_spec (d := (x.1).length) jO) jF ?_)
 refine E R R (zH R (ev3 R R R) qD qS (room_spec (z := cstB (x.1).length) (rs := rs) jO) jF ?_)
 refine V R R (zu (T.dpU qP (fun m hu => ?_)))
 refine z8 (O (E R R (zZ R R R (I (zR R (decide_eq_false (fun q => q R)) ?_)))))
 refine zq (z8 (ze (ze (yx (fun K' D' M' => K' = [(10, .int .i64 (fzE none))] ∧ D' = [] ∧ M' = [cl bd 121 [.pointer (some ⟨bb, 0, none⟩), .map (some m)], mp m aK iK (atF (bsN k.n tn) rs []), bkA bb k (fzN none) tn (apF none rs (5, x.1)), cl bs 66 [.pointer (some ⟨br, 0, none⟩), .pointer (some ⟨bd, 0, none⟩), .bool false]]) (M0 := [cl bd 121 [.pointer (some ⟨bb, 0, none⟩), .map (some m)], mp m aK iK (atF (bsN k.n tn) rs []), bkA bb k none tn rs, cl bs 66 [.pointer (some ⟨br, 0, none⟩), .pointer (some ⟨bd, 0, none⟩), .bool false]]) (.c 0 R <| .c 4 R <| zd _) qS ?_ ?_))))
 ·refine y7 (clsL [1, 1, 1, 2, 1, 1, 2, 1, 1, 1, 1, 2, 1, 1, 1, 2, 2, 1]) qk ?_
  refine z9 0 R R (E R R (z7 (yX (i := 1) R R qk qk qk R qD R ?_)))
  refine z9 2 R R (zg R fo66_1 R ?_)
  refine z7 (z9 7 R R (zg R x9 R ?_))
  refine z7 (z9 8 R R (zf R sc3 R qC ?_))
  refine z7 (z9 9 R R (zg R fo85_1 R ?_))
  refine z7 (z9 10 R R (zf R sc9 R qC ?_))
  refine z7 (yA (is := [3, 15]) qk jD (zU R ?_ <| zU R ?_ <| yB) )
  ·refine zf R sc64 R qC ?_
   refine zh R qD ?_
   refine yX (i := 4) R R qk qk qk R qD R ?_
   refine z9 5 R R (zg R fo121_0 R ?_)
   refine z7 (yA (is := [6, 15]) qk jD (zU R ?_ <| zU R ?_ <| yB) )
   ·refine zf R sc114 R qC ?_
    refine zh R qD ?_
    refine yA (is := [11, 15]) qk jD (zU R ?_ <| zU R ?_ <| yB) 
    ·refine zp R (ev3 R R R) qD qS (bapp_spec (f := none) (rs := rs) (tn := tn) (kd := 5) (d := x.1) hro (by show _ + cstB (x.1).length ≤ _; omega)) ?_
     rintro _ _ _ ⟨rfl, rfl, rfl⟩
     refine zm qA qA ?_
     refine zh R qD ?_
     refine z9 12 R R (E R R (z7 (z9 13 R R (zr R R R (z7 (z9 14 R R (zr R R R (z7 (zi 15 R (zC R ze85 (fun b9 => ?_)))))))))))
     refine zh R qD ?_
     refine zi 16 R (zz yD R R qL qO qU qW ?_)
     refine zh R qD ?_
     refine z9 17 R R (V R R (z7 (zN qk ?_)))
     exact z8 (zK ⟨R, R, R⟩ (.c 10 R <| zd _) (.c 0 R <| .c 4 R <| zd _) qD qD qF)
    refine zC R ze85 (fun b9 => ?_)
    refine zh R qD ?_
    refine zi 11 R (zp R (ev3 R R R) qD qS (bapp_spec (f := none) (rs := rs) (tn := tn) (kd := 5) (d := x.1) hro (by show _ + cstB (x.1).length ≤ _; omega)) ?_)
    rintro _ _ _ ⟨rfl, rfl, rfl⟩
    refine zm qA qA ?_
    refine zh R qD ?_
    refine z9 12 R R (E R R (z7 (z9 13 R R (zr R R R (z7 (z9 14 R R (zr R R R (z7 (zi 16 R (zz yD R R qL qO qU qW ?_))))))))))
    refine zh R qD ?_
    refine z9 17 R R (V R R (z7 (zN qk ?_)))
    exact z8 (zK ⟨R, R, R⟩ (.c 10 R <| zd _) (.c 0 R <| .c 4 R <| zd _) qD qD qF)
   refine zC R ze85 (fun b9 => ?_)
   refine zh R qD ?_
   refine zi 6 R (zf R sc114 R qC ?_)
   refine zh R qD ?_
   refine zi 11 R (zp R (ev3 R R R) qD qS (bapp_spec (f := none) (rs := rs) (tn := tn) (kd := 5) (d := x.1) hro (by show _ + cstB (x.1).length ≤ _; omega)) ?_)
   rintro _ _ _ ⟨rfl, rfl, rfl⟩
   refine zm qA qA ?_
   refine zh R qD ?_
   refine z9 12 R R (E R R (z7 (z9 13 R R (zr R R R (z7 (z9 14 R R (zr R R R (z7 (zi 16 R (zz yD R R qL qO qU qW ?_))))))))))
   refine zh R qD ?_
   refine z9 17 R R (V R R (z7 (zN qk ?_)))
   exact z8 (zK ⟨R, R, R⟩ (.c 10 R <| zd _) (.c 0 R <| .c 4 R <| zd _) qD qD qF)
  refine zC R ze85 (fun b9 => ?_)
  refine zh R qD ?_
  refine zi 3 R (zf R sc64 R qC ?_)
  refine zh R qD ?_
  refine yX (i := 4) R R qk qk qk R qD R ?_
  refine z9 5 R R (zg R fo121_0 R ?_)
  refine z7 (zi 6 R (zf R sc114 R qC ?_))
  refine zh R qD ?_
  refine zi 11 R (zp R (ev3 R R R) qD qS (bapp_spec (f := none) (rs := rs) (tn := tn) (kd := 5) (d := x.1) hro (by show _ + cstB (x.1).length ≤ _; omega)) ?_)
  rintro _ _ _ ⟨rfl, rfl, rfl⟩
  refine zm qA qA ?_
  refine zh R qD ?_
  refine z9 12 R R (E R R (z7 (z9 13 R R (zr R R R (z7 (z9 14 R R (zr R R R (z7 (zi 16 R (zz yD R R qL qO qU qW ?_))))))))))
  refine zh R qD ?_
  refine z9 17 R R (V R R (z7 (zN qk ?_)))
  exact z8 (zK ⟨R, R, R⟩ (.c 10 R <| zd _) (.c 0 R <| .c 4 R <| zd _) qD qD qF)
 rintro _ _ _ ⟨rfl, rfl, rfl⟩
 refine zM qA qA qA ?_
 refine z8 (O (E R R (zZ R R R (I (zR R (decide_eq_false (fun q => q R)) ?_)))))
 refine zq (z8 (ze (ze (T.bkU qP (fun y hy => ?_)))))
 obtain ⟨h1, h2, h3, h4, h5, h6, h7⟩ := id hy
 refine zt (E R R (zJ R R ?_))
 refine zg R fo66_1 R ?_
 refine zf R sc64 R qC ?_
 refine zJ R R ?_
 refine zg R fo121_0 R ?_
 refine zf R sc114 R qC ?_
 refine zJ R R ?_
 refine zg R fo124_0 R ?_
 refine zf R sc23 R qC ?_
 refine zp R (ev1 R) qD qS (dsync_spec (f := fzN none) h6) ?_
 rintro _ _ _ ⟨rfl, rfl, rfl⟩
 refine zm qA qA ?_
 refine V R R (zu (T.bkF (cur := y.cur) (pv := y.pv) (e := y.e) (sm := y.sm) (bp := y.bp) (hy) qS ?_))
 refine z8 (O (E R R (zZ R R R (I (zR R (decide_eq_false (fun q => q R)) ?_)))))
 refine zq (z8 (ze (y7 (clsL [1, 0, 1, 0, 0, 2, 1]) qk ?_)))
 refine z9 0 R R (E R R (z7 (yE (i := 1) R R qk qk qk qk R qD qF R ?_)))
 refine z9 2 R R (zg R xr R ?_)
 refine z7 (zY (i := 3) R R R R qk qk qk qk R qD qF ?_)
 refine zf R sc63 R qC ?_
 refine z7 (zY (i := 4) R R R R qk qk qk qk R qD qF ?_)
 refine zx R yD R qN ?_
 refine z7 (zi 5 R (zp R (ev2 R R) qD qS (do5_spec (pl := pl) (hl := hl) (x := x) hx) ?_))
 rintro _ _ _ ⟨rfl, rfl, rfl⟩
 refine zm qA qA ?_
 refine zh R qD ?_
 refine z9 6 R R (V R R (z7 (zN qk ?_)))
 refine z8 (zo (y3 qP (show bkA bb k (fzN (fzN none)) tn (apF none rs (5, x.1)) = bkA bb k none tn (rs ++ [(5, x.1)]) from R) ?_))
 refine y3 qP (show mp m aK iK (atF (bsN k.n tn) rs []) = mp m aK iK (atF (bsN k.n tn) (rs ++ [(5, x.1)]) []) from by rw [atF_skip (show rcO (5, x.1) = none from R)]) ?_
 refine T.dpF (m := m) (hu.skip (show rcO (5, x.1) = none from R)) qS ?_
 exact zy R R ⟨R, R, R⟩ qD qF
theorem note2_spec {bs br bd bb bp bh ba tn : Nat} {k : Dk} {rs : List Rc} {pl : IvM} {hl al : SnM} {s : List UInt8} (hrc : RcOk (2, s)) (hx : ∀ e pl2, AddP pl s e pl2 → e = 0) (hsp : cstB s.length ≤ hfN k.n - csts rs) (hs0 : csts rs ≤ hfN k.n) : Spec Tryz.prog 38 [.pointer (some ⟨bs, 0, none⟩), .agg #[.int .i64 2, S s, .int .i64 0], .slice none 0 0] [cl br 128 (rgC bp bh ba), ifs pl, cl k.bd 51 [.pointer (some ⟨k.bf, 0, none⟩), .slice (some ⟨k.sb, 0, none⟩) k.n k.n, .map (some k.bl)]] [cl bs 66 [.pointer (some ⟨br, 0, none⟩), .pointer (some ⟨bd, 0, none⟩), .bool false], dpA bd bb k none tn rs, mp bp aK ivV pl, mp bh aK iK hl, mp ba aK iK al] (fun v D' M' => ∃ (pl2 : IvM), v = .int .i64 0 ∧ (AddP pl s 0 pl2) ∧ D' = [ifs pl2] ∧ M' = [cl bs 66 [.pointer (some ⟨br, 0, none⟩), .pointer (some ⟨bd, 0, none⟩), .bool false], dpA bd bb k none tn (rs ++ [(2, s)]), mp bp aK ivV pl2, mp bh aK iK hl, mp ba aK iK al]) := by
 refine zv (n := 78) Tryz.func38 ?_
 intro σ D M
 have hro := (show RcOk (2, s) from hrc)
 have hrd : (s).length ≤ 4096 := hro.2.2
 have hrl := @rcF_len none 2 (s) (bsN k.n tn + csts rs)
 have hr1 := @rcF_one none 2 (s) (bsN k.n tn + csts rs)
 refine O (y6 R R R (fun b4 => ?_))
 refine V R R (zu (zO (A := cl b4 85 [.int .i64 2, S s, .int .i64 0]) qP ?_))
 refine z8 (ze (O (E R R (zJ R R ?_))))
 refine zg R fo66_2 R ?_
 refine zf R sc4 R qC ?_
 refine I (zR R R ?_)
 refine zq (z8 (ze (ze (y7 (clsL [1, 1, 1, 2, 2, 1, 2, 1]) qk ?_))))
 refine z9 0 R R (E R R (z7 (yX (i := 1) R R qk qk qk R qD R ?_)))
 refine z9 2 R R (zg R xr R ?_)
 refine z7 (z9 5 R R (zx R yD R qN ?_))
 refine z7 (zi 3 R (zf R sc63 R qC ?_))
 refine zh R qD ?_
 refine zi 4 R (zp R (ev1 R) qD qS (rgclone_spec (pl := pl) (hl := hl) (al := al)) ?_)
 rintro _ _ _ ⟨b2, p2, h2, a2, rfl, rfl, rfl⟩
 refine zm qA qA ?_
 refine zh R qD ?_
 refine zi 6 R (zp R (ev2 R R) qD qS (do2_spec (pl := pl) (hl := hl) (al := al) (s := s) jO) ?_)
 rintro _ _ _ ⟨e, pl1, rfl, hadd1, rfl, rfl⟩
 refine zm qA qA ?_
 obtain rfl := hx _ _ hadd1
 refine zh R qD ?_
 refine z9 7 R R (V R R (z7 (zN qk ?_)))
 refine z8 (O (E R R (zZ R R R (I (zR R (decide_eq_false (fun q => q R)) ?_)))))
 refine zq (z8 (ze (O (E R R (zg R fo85_1 R ?_)))))
 refine zf R sc9 R qC ?_
 refine yL R ye R (zH R (ev1 R) qD qS (cost_spec (d := (s).length) jO) jF ?_)
 refine E R R (zH R (ev3 R R R) qD qS (room_spec (z := cstB (s).length) (rs := rs) jO) jF ?_)
 refine V R R (zu (T.dpU qP (fun m hu => ?_)))
 refine z8 (O (E R R (zZ R R R (I (zR R (decide_eq_false (fun q => q R)) ?_)))))
 refine zq (z8 (ze (ze (yx (fun K' D' M' => K' = [(10, .int .i64 (fzE none))] ∧ D' = [] ∧ M' = [cl bd 121 [.pointer (some ⟨bb, 0, none⟩), .map (some m)], mp m aK iK (atF (bsN k.n tn) rs []), bkA bb k (fzN none) tn (apF none rs (2, s)), cl bs 66 [.pointer (some ⟨br, 0, none⟩), .pointer (some ⟨bd, 0, none⟩), .bool false]]) (M0 := [cl bd 121 [.pointer (some ⟨bb, 0, none⟩), .map (some m)], mp m aK iK (atF (bsN k.n tn) rs []), bkA bb k none tn rs, cl bs 66 [.pointer (some ⟨br, 0, none⟩), .pointer (some ⟨bd, 0, none⟩), .bool false]]) (.c 0 R <| .c 4 R <| zd _) qS ?_ ?_))))
 ·refine y7 (clsL [1, 1, 1, 2, 1, 1, 2, 1, 1, 1, 1, 2, 1, 1, 1, 2, 2, 1]) qk ?_
  refine z9 0 R R (E R R (z7 (yX (i := 1) R R qk qk qk R qD R ?_)))
  refine z9 2 R R (zg R fo66_1 R ?_)
  refine z7 (z9 7 R R (zg R x9 R ?_))
  refine z7 (z9 8 R R (zf R sc3 R qC ?_))
  refine z7 (z9 9 R R (zg R fo85_1 R ?_))
  refine z7 (z9 10 R R (zf R sc9 R qC ?_))
  refine z7 (yA (is := [3, 15]) qk jD (zU R ?_ <| zU R ?_ <| yB) )
  ·refine zf R sc64 R qC ?_
   refine zh R qD ?_
   refine yX (i := 4) R R qk qk qk R qD R ?_
   refine z9 5 R R (zg R fo121_0 R ?_)
   refine z7 (yA (is := [6, 15]) qk jD (zU R ?_ <| zU R ?_ <| yB) )
   ·refine zf R sc114 R qC ?_
    refine zh R qD ?_
    refine yA (is := [11, 15]) qk jD (zU R ?_ <| zU R ?_ <| yB) 
    ·refine zp R (ev3 R R R) qD qS (bapp_spec (f := none) (rs := rs) (tn := tn) (kd := 2) (d := s) hro (by show _ + cstB (s).length ≤ _; omega)) ?_
     rintro _ _ _ ⟨rfl, rfl, rfl⟩
     refine zm qA qA ?_
     refine zh R qD ?_
     refine z9 12 R R (E R R (z7 (z9 13 R R (zr R R R (z7 (z9 14 R R (zr R R R (z7 (zi 15 R (zC R ze85 (fun b9 => ?_)))))))))))
     refine zh R qD ?_
     refine zi 16 R (zz yD R R qL qO qU qW ?_)
     refine zh R qD ?_
     refine z9 17 R R (V R R (z7 (zN qk ?_)))
     exact z8 (zK ⟨R, R, R⟩ (.c 10 R <| zd _) (.c 0 R <| .c 4 R <| zd _) qD qD qF)
    refine zC R ze85 (fun b9 => ?_)
    refine zh R qD ?_
    refine zi 11 R (zp R (ev3 R R R) qD qS (bapp_spec (f := none) (rs := rs) (tn := tn) (kd := 2) (d := s) hro (by show _ + cstB (s).length ≤ _; omega)) ?_)
    rintro _ _ _ ⟨rfl, rfl, rfl⟩
    refine zm qA qA ?_
    refine zh R qD ?_
    refine z9 12 R R (E R R (z7 (z9 13 R R (zr R R R (z7 (z9 14 R R (zr R R R (z7 (zi 16 R (zz yD R R qL qO qU qW ?_))))))))))
    refine zh R qD ?_
    refine z9 17 R R (V R R (z7 (zN qk ?_)))
    exact z8 (zK ⟨R, R, R⟩ (.c 10 R <| zd _) (.c 0 R <| .c 4 R <| zd _) qD qD qF)
   refine zC R ze85 (fun b9 => ?_)
   refine zh R qD ?_
   refine zi 6 R (zf R sc114 R qC ?_)
   refine zh R qD ?_
   refine zi 11 R (zp R (ev3 R R R) qD qS (bapp_spec (f := none) (rs := rs) (tn := tn) (kd := 2) (d := s) hro (by show _ + cstB (s).length ≤ _; omega)) ?_)
   rintro _ _ _ ⟨rfl, rfl, rfl⟩
   refine zm qA qA ?_
   refine zh R qD ?_
   refine z9 12 R R (E R R (z7 (z9 13 R R (zr R R R (z7 (z9 14 R R (zr R R R (z7 (zi 16 R (zz yD R R qL qO qU qW ?_))))))))))
   refine zh R qD ?_
   refine z9 17 R R (V R R (z7 (zN qk ?_)))
   exact z8 (zK ⟨R, R, R⟩ (.c 10 R <| zd _) (.c 0 R <| .c 4 R <| zd _) qD qD qF)
  refine zC R ze85 (fun b9 => ?_)
  refine zh R qD ?_
  refine zi 3 R (zf R sc64 R qC ?_)
  refine zh R qD ?_
  refine yX (i := 4) R R qk qk qk R qD R ?_
  refine z9 5 R R (zg R fo121_0 R ?_)
  refine z7 (zi 6 R (zf R sc114 R qC ?_))
  refine zh R qD ?_
  refine zi 11 R (zp R (ev3 R R R) qD qS (bapp_spec (f := none) (rs := rs) (tn := tn) (kd := 2) (d := s) hro (by show _ + cstB (s).length ≤ _; omega)) ?_)
  rintro _ _ _ ⟨rfl, rfl, rfl⟩
  refine zm qA qA ?_
  refine zh R qD ?_
  refine z9 12 R R (E R R (z7 (z9 13 R R (zr R R R (z7 (z9 14 R R (zr R R R (z7 (zi 16 R (zz yD R R qL qO qU qW ?_))))))))))
  refine zh R qD ?_
  refine z9 17 R R (V R R (z7 (zN qk ?_)))
  exact z8 (zK ⟨R, R, R⟩ (.c 10 R <| zd _) (.c 0 R <| .c 4 R <| zd _) qD qD qF)
 rintro _ _ _ ⟨rfl, rfl, rfl⟩
 refine zM qA qA qA ?_
 refine z8 (O (E R R (zZ R R R (I (zR R (decide_eq_false (fun q => q R)) ?_)))))
 refine zq (z8 (ze (ze (T.bkU qP (fun y hy => ?_)))))
 obtain ⟨h1, h2, h3, h4, h5, h6, h7⟩ := id hy
 refine zt (E R R (zJ R R ?_))
 refine zg R fo66_1 R ?_
 refine zf R sc64 R qC ?_
 refine zJ R R ?_
 refine zg R fo121_0 R ?_
 refine zf R sc114 R qC ?_
 refine zJ R R ?_
 refine zg R fo124_0 R ?_
 refine zf R sc23 R qC ?_
 refine zp R (ev1 R) qD qS (dsync_spec (f := fzN none) h6) ?_
 rintro _ _ _ ⟨rfl, rfl, rfl⟩
 refine zm qA qA ?_
 refine V R R (zu (T.bkF (cur := y.cur) (pv := y.pv) (e := y.e) (sm := y.sm) (bp := y.bp) (hy) qS ?_))
 refine z8 (O (E R R (zZ R R R (I (zR R (decide_eq_false (fun q => q R)) ?_)))))
 refine zq (z8 (ze (y7 (clsL [1, 0, 1, 0, 0, 2, 1]) qk ?_)))
 refine z9 0 R R (E R R (z7 (yE (i := 1) R R qk qk qk qk R qD qF R ?_)))
 refine z9 2 R R (zg R xr R ?_)
 refine z7 (zY (i := 3) R R R R qk qk qk qk R qD qF ?_)
 refine zf R sc63 R qC ?_
 refine z7 (zY (i := 4) R R R R qk qk qk qk R qD qF ?_)
 refine zx R yD R qN ?_
 refine z7 (zi 5 R (zp R (ev2 R R) qD qS (do2_spec (pl := pl) (hl := hl) (al := al) (s := s) jO) ?_))
 rintro _ _ _ ⟨e, pl2, rfl, hadd, rfl, rfl⟩
 refine zm qA qA ?_
 obtain rfl := hx _ _ hadd
 refine zh R qD ?_
 refine z9 6 R R (V R R (z7 (zN qk ?_)))
 refine z8 (zo (y3 qP (show bkA bb k (fzN (fzN none)) tn (apF none rs (2, s)) = bkA bb k none tn (rs ++ [(2, s)]) from R) ?_))
 refine y3 qP (show mp m aK iK (atF (bsN k.n tn) rs []) = mp m aK iK (atF (bsN k.n tn) (rs ++ [(2, s)]) []) from by rw [atF_skip (show rcO (2, s) = none from R)]) ?_
 refine T.dpF (m := m) (hu.skip (show rcO (2, s) = none from R)) qS ?_
 exact zy R R ⟨_, R, hadd, R, R⟩ qD qF
theorem note4_spec {bs br bd bb bp bh ba tn : Nat} {k : Dk} {rs : List Rc} {pl : IvM} {hl al : SnM} {f : Fz} {x : ID32} (hrc : RcOk (4, x.1)) (hx : look pl x ≠ none) (hsp : cstB x.1.length ≤ hfN k.n - csts rs) (hs0 : csts rs ≤ hfN k.n) : Spec Tryz.prog 38 [.pointer (some ⟨bs, 0, none⟩), .agg #[.int .i64 4, S x.1, .int .i64 0], .slice none 0 0] [cl br 128 (rgC bp bh ba), cl k.bd 51 [.pointer (some ⟨k.bf, 0, none⟩), .slice (some ⟨k.sb, 0, none⟩) k.n k.n, .map (some k.bl)]] [cl bs 66 [.pointer (some ⟨br, 0, none⟩), .pointer (some ⟨bd, 0, none⟩), .bool false], dpA bd bb k f tn rs, mp bp aK ivV pl, mp bh aK iK hl, mp ba aK iK al] (fun v D' M' => ∃ (e : Int) (f2 : Fz) (rs2 : List Rc) (hl2 : SnM) (sk2 : Bool), v = .int .i64 e ∧ (NtP f rs (4, x.1) hl (put hl x 1) e f2 rs2 hl2 sk2) ∧ D' = [] ∧ M' = [cl bs 66 [.pointer (some ⟨br, 0, none⟩), .pointer (some ⟨bd, 0, none⟩), .bool sk2], dpA bd bb k f2 tn rs2, mp bp aK ivV pl, mp bh aK iK hl2, mp ba aK iK al]) := by
 refine zv (n := 78) Tryz.func38 ?_
 intro σ D M
 have hro := (show RcOk (4, x.1) from hrc)
 have hrd : (x.1).length ≤ 4096 := hro.2.2
 have hrl := @rcF_len f 4 (x.1) (bsN k.n tn + csts rs)
 have hr1 := @rcF_one f 4 (x.1) (bsN k.n tn + csts rs)
 refine O (y6 R R R (fun b4 => ?_))
 refine V R R (zu (zO (A := cl b4 85 [.int .i64 4, S x.1, .int .i64 0]) qP ?_))
 refine z8 (ze (O (E R R (zJ R R ?_))))
 refine zg R fo66_2 R ?_
 refine zf R sc4 R qC ?_
 refine I (zR R R ?_)
 refine zq (z8 (ze (ze (y7 (clsL [1, 1, 1, 2, 2, 1, 2, 1]) qk ?_))))
 refine z9 0 R R (E R R (z7 (yX (i := 1) R R qk qk qk R qD R ?_)))
 refine z9 2 R R (zg R xr R ?_)
 refine z7 (z9 5 R R (zx R yD R qN ?_))
 refine z7 (zi 3 R (zf R sc63 R qC ?_))
 refine zh R qD ?_
 refine zi 4 R (zp R (ev1 R) qD qS (rgclone_spec (pl := pl) (hl := hl) (al := al)) ?_)
 rintro _ _ _ ⟨b2, p2, h2, a2, rfl, rfl, rfl⟩
 refine zm qA qA ?_
 refine zh R qD ?_
 refine zi 6 R (zp R (ev2 R R) qD qS (do4_spec (pl := pl) (hl := hl) (al := al) (x := x)) ?_)
 rintro _ _ _ ⟨rfl, rfl, rfl⟩
 refine zm qA qA ?_
 rw [if_neg hx, if_neg hx]
 refine zh R qD ?_
 refine z9 7 R R (V R R (z7 (zN qk ?_)))
 refine z8 (O (E R R (zZ R R R (I (zR R (decide_eq_false (fun q => q R)) ?_)))))
 refine zq (z8 (ze (O (E R R (zg R fo85_1 R ?_)))))
 refine zf R sc9 R qC ?_
 refine yL R ye R (zH R (ev1 R) qD qS (cost_spec (d := (x.1).length) jO) jF ?_)
 refine E R R (zH R (ev3 R R R) qD qS (roomf_spec (z := cstB (x.1).length) (rs := rs) jO) jF ?_)
 refine V R R (zu (T.dpU qP (fun m hu => ?_)))
 refine z8 (O (E R R (zZ R R R (I (zR R (decide_eq_false (fun q => q R)) ?_)))))
 refine zq (z8 (ze (ze (yx (fun K' D' M' => K' = [(10, .int .i64 (fzE f))] ∧ D' = [] ∧ M' = [cl bd 121 [.pointer (some ⟨bb, 0, none⟩), .map (some m)], mp m aK iK (atF (bsN k.n tn) rs []), bkA bb k (fzN f) tn (apF f rs (4, x.1)), cl bs 66 [.pointer (some ⟨br, 0, none⟩), .pointer (some ⟨bd, 0, none⟩), .bool false]]) (M0 := [cl bd 121 [.pointer (some ⟨bb, 0, none⟩), .map (some m)], mp m aK iK (atF (bsN k.n tn) rs []), bkA bb k f tn rs, cl bs 66 [.pointer (some ⟨br, 0, none⟩), .pointer (some ⟨bd, 0, none⟩), .bool false]]) (.c 0 R <| .c 4 R <| zd _) qS ?_ ?_))))
 ·refine y7 (clsL [1, 1, 1, 2, 1, 1, 2, 1, 1, 1, 1, 2, 1, 1, 1, 2, 2, 1]) qk ?_
  refine z9 0 R R (E R R (z7 (yX (i := 1) R R qk qk qk R qD R ?_)))
  refine z9 2 R R (zg R fo66_1 R ?_)
  refine z7 (z9 7 R R (zg R x9 R ?_))
  refine z7 (z9 8 R R (zf R sc3 R qC ?_))
  refine z7 (z9 9 R R (zg R fo85_1 R ?_))
  refine z7 (z9 10 R R (zf R sc9 R qC ?_))
  refine z7 (yA (is := [3, 15]) qk jD (zU R ?_ <| zU R ?_ <| yB) )
  ·refine zf R sc64 R qC ?_
   refine zh R qD ?_
   refine yX (i := 4) R R qk qk qk R qD R ?_
   refine z9 5 R R (zg R fo121_0 R ?_)
   refine z7 (yA (is := [6, 15]) qk jD (zU R ?_ <| zU R ?_ <| yB) )
   ·refine zf R sc114 R qC ?_
    refine zh R qD ?_
    refine yA (is := [11, 15]) qk jD (zU R ?_ <| zU R ?_ <| yB) 
    ·refine zp R (ev3 R R R) qD qS (bapp_spec (f := f) (rs := rs) (tn := tn) (kd := 4) (d := x.1) hro (by show _ + cstB (x.1).length ≤ _; omega)) ?_
     rintro _ _ _ ⟨rfl, rfl, rfl⟩
     refine zm qA qA ?_
     refine zh R qD ?_
     refine z9 12 R R (E R R (z7 (z9 13 R R (zr R R R (z7 (z9 14 R R (zr R R R (z7 (zi 15 R (zC R ze85 (fun b9 => ?_)))))))))))
     refine zh R qD ?_
     refine zi 16 R (zz yD R R qL qO qU qW ?_)
     refine zh R qD ?_
     refine z9 17 R R (V R R (z7 (zN qk ?_)))
     exact z8 (zK ⟨R, R, R⟩ (.c 10 R <| zd _) (.c 0 R <| .c 4 R <| zd _) qD qD qF)
    refine zC R ze85 (fun b9 => ?_)
    refine zh R qD ?_
    refine zi 11 R (zp R (ev3 R R R) qD qS (bapp_spec (f := f) (rs := rs) (tn := tn) (kd := 4) (d := x.1) hro (by show _ + cstB (x.1).length ≤ _; omega)) ?_)
    rintro _ _ _ ⟨rfl, rfl, rfl⟩
    refine zm qA qA ?_
    refine zh R qD ?_
    refine z9 12 R R (E R R (z7 (z9 13 R R (zr R R R (z7 (z9 14 R R (zr R R R (z7 (zi 16 R (zz yD R R qL qO qU qW ?_))))))))))
    refine zh R qD ?_
    refine z9 17 R R (V R R (z7 (zN qk ?_)))
    exact z8 (zK ⟨R, R, R⟩ (.c 10 R <| zd _) (.c 0 R <| .c 4 R <| zd _) qD qD qF)
   refine zC R ze85 (fun b9 => ?_)
   refine zh R qD ?_
   refine zi 6 R (zf R sc114 R qC ?_)
   refine zh R qD ?_
   refine zi 11 R (zp R (ev3 R R R) qD qS (bapp_spec (f := f) (rs := rs) (tn := tn) (kd := 4) (d := x.1) hro (by show _ + cstB (x.1).length ≤ _; omega)) ?_)
   rintro _ _ _ ⟨rfl, rfl, rfl⟩
   refine zm qA qA ?_
   refine zh R qD ?_
   refine z9 12 R R (E R R (z7 (z9 13 R R (zr R R R (z7 (z9 14 R R (zr R R R (z7 (zi 16 R (zz yD R R qL qO qU qW ?_))))))))))
   refine zh R qD ?_
   refine z9 17 R R (V R R (z7 (zN qk ?_)))
   exact z8 (zK ⟨R, R, R⟩ (.c 10 R <| zd _) (.c 0 R <| .c 4 R <| zd _) qD qD qF)
  refine zC R ze85 (fun b9 => ?_)
  refine zh R qD ?_
  refine zi 3 R (zf R sc64 R qC ?_)
  refine zh R qD ?_
  refine yX (i := 4) R R qk qk qk R qD R ?_
  refine z9 5 R R (zg R fo121_0 R ?_)
  refine z7 (zi 6 R (zf R sc114 R qC ?_))
  refine zh R qD ?_
  refine zi 11 R (zp R (ev3 R R R) qD qS (bapp_spec (f := f) (rs := rs) (tn := tn) (kd := 4) (d := x.1) hro (by show _ + cstB (x.1).length ≤ _; omega)) ?_)
  rintro _ _ _ ⟨rfl, rfl, rfl⟩
  refine zm qA qA ?_
  refine zh R qD ?_
  refine z9 12 R R (E R R (z7 (z9 13 R R (zr R R R (z7 (z9 14 R R (zr R R R (z7 (zi 16 R (zz yD R R qL qO qU qW ?_))))))))))
  refine zh R qD ?_
  refine z9 17 R R (V R R (z7 (zN qk ?_)))
  exact z8 (zK ⟨R, R, R⟩ (.c 10 R <| zd _) (.c 0 R <| .c 4 R <| zd _) qD qD qF)
 rintro _ _ _ ⟨rfl, rfl, rfl⟩
 refine zM qA qA qA ?_
 refine z8 (O (E R R (zZ R R R (I (zA R (fun h52 => ?_) (fun h52 => ?_))))))
 ·try simp only [dq] at h52
  have hff := fzE_t h52
  rw [show apF f rs (4, x.1) = rs from if_pos hff]
  refine O (E R R (E R R (zp R (ev2 R R) qD qS (sfails_spec) ?_)))
  rintro _ _ _ ⟨rfl, rfl, rfl⟩
  refine zm qA qA ?_
  refine V R R (I (zo (zL (T.dpF (m := m) (hu) qS ?_))))
  exact zy R R ⟨_, _, _, _, (false || decide (fzE f = 13)), R, ⟨fun e => (by rw [e] at hff; cases hff), fun _ => ⟨by rw [hff]; rfl, R, by rw [hff]; rfl⟩⟩, R, R⟩ qD qF
 try simp only [dq] at h52
 have hff := fzE_f h52
 rw [show apF f rs (4, x.1) = rs ++ [(4, x.1)] from if_neg hff]
 refine zq (z8 (ze (ze (T.bkU qP (fun y hy => ?_)))))
 obtain ⟨h1, h2, h3, h4, h5, h6, h7⟩ := id hy
 refine zt (E R R (zJ R R ?_))
 refine zg R fo66_1 R ?_
 refine zf R sc64 R qC ?_
 refine zJ R R ?_
 refine zg R fo121_0 R ?_
 refine zf R sc114 R qC ?_
 refine zJ R R ?_
 refine zg R fo124_0 R ?_
 refine zf R sc23 R qC ?_
 refine zp R (ev1 R) qD qS (dsync_spec (f := fzN f) h6) ?_
 rintro _ _ _ ⟨rfl, rfl, rfl⟩
 refine zm qA qA ?_
 refine V R R (zu (T.bkF (cur := y.cur) (pv := y.pv) (e := y.e) (sm := y.sm) (bp := y.bp) (hy) qS ?_))
 refine z8 (O (E R R (zZ R R R (I (zA R (fun h68 => ?_) (fun h68 => ?_))))))
 ·try simp only [dq] at h68
  have hff2 := fzE_t h68
  refine O (E R R (E R R (zp R (ev2 R R) qD qS (sfails_spec) ?_)))
  rintro _ _ _ ⟨rfl, rfl, rfl⟩
  refine zm qA qA ?_
  refine V R R (zu ?_)
  skip
  refine z8 (zo (zL (y3 qP (show mp m aK iK (atF (bsN k.n tn) rs []) = mp m aK iK (atF (bsN k.n tn) (rs ++ [(4, x.1)]) []) from by rw [atF_skip (show rcO (4, x.1) = none from R)]) ?_)))
  refine T.dpF (m := m) (hu.skip (show rcO (4, x.1) = none from R)) qS ?_
  exact zy R R ⟨_, _, _, _, (false || decide (fzE (fzN f) = 13)), R, ⟨fun e => (by rw [e] at hff2; cases hff2), fun _ => ⟨by rw [hff2]; rfl, R, by rw [hff2]; rfl⟩⟩, R, R⟩ qD qF
 try simp only [dq] at h68
 have hff2 := fzE_f h68
 refine zq (z8 (ze (y7 (clsL [1, 0, 1, 0, 0, 2, 1]) qk ?_)))
 refine z9 0 R R (E R R (z7 (yE (i := 1) R R qk qk qk qk R qD qF R ?_)))
 refine z9 2 R R (zg R xr R ?_)
 refine z7 (zY (i := 3) R R R R qk qk qk qk R qD qF ?_)
 refine zf R sc63 R qC ?_
 refine z7 (zY (i := 4) R R R R qk qk qk qk R qD qF ?_)
 refine zx R yD R qN ?_
 refine z7 (zi 5 R (zp R (ev2 R R) qD qS (do4_spec (pl := pl) (hl := hl) (al := al) (x := x)) ?_))
 rintro _ _ _ ⟨rfl, rfl, rfl⟩
 refine zm qA qA ?_
 rw [if_neg hx, if_neg hx]
 refine zh R qD ?_
 refine z9 6 R R (V R R (z7 (zN qk ?_)))
 refine z8 (zo (y3 qP (show mp m aK iK (atF (bsN k.n tn) rs []) = mp m aK iK (atF (bsN k.n tn) (rs ++ [(4, x.1)]) []) from by rw [atF_skip (show rcO (4, x.1) = none from R)]) ?_))
 refine T.dpF (m := m) (hu.skip (show rcO (4, x.1) = none from R)) qS ?_
 exact zy R R ⟨_, fzN (fzN f), _, _, _, R, ⟨fun hn => ⟨R, (by rw [hn]; rfl), R, R, R⟩, fun e => e.elim (fun e => absurd e hff) (fun e => (by rw [e] at hff2; exact absurd R hff2))⟩, R, R⟩ qD qF
end Cv
set_option maxRecDepth 10000
namespace Cv
open Go Go.Proofs

theorem sick_spec {bs br bd : Nat} {sk : Bool}  : Spec Tryz.prog 15 [.pointer (some ⟨bs, 0, none⟩)] [] [cl bs 66 [.pointer (some ⟨br, 0, none⟩), .pointer (some ⟨bd, 0, none⟩), .bool sk]] (fun v D' M' => v = .bool sk ∧ D' = [] ∧ M' = [cl bs 66 [.pointer (some ⟨br, 0, none⟩), .pointer (some ⟨bd, 0, none⟩), .bool sk]]) := by
 refine zv (n := 7) Tryz.func15 ?_
 intro σ D M
 refine O (V R R (I (O (E R R (zJ R R ?_)))))
 refine zg R fo66_2 R ?_
 refine zf R sc4 R qC ?_
 exact V R R (I (zo (zy R R ⟨R, R, R⟩ qD qF)))
theorem note_sick {bs br bd : Nat} {kd q : Int} {d : List UInt8} {a : Value}  : Spec Tryz.prog 38 [.pointer (some ⟨bs, 0, none⟩), .agg #[.int .i64 kd, S d, .int .i64 q], a] [] [cl bs 66 [.pointer (some ⟨br, 0, none⟩), .pointer (some ⟨bd, 0, none⟩), .bool true]] (fun v D' M' => v = .int .i64 13 ∧ D' = [] ∧ M' = [cl bs 66 [.pointer (some ⟨br, 0, none⟩), .pointer (some ⟨bd, 0, none⟩), .bool true]]) := by
 refine zv (n := 78) Tryz.func38 ?_
 intro σ D M
 refine O (y6 R R R (fun b4 => ?_))
 refine V R R (I (ze (O (E R R (zJ R R ?_)))))
 refine zg R fo66_2 R ?_
 refine zf R sc4 R qC ?_
 refine I (yV R R ?_)
 exact O (V R R (I (zo (zL (zy R R ⟨R, R, R⟩ qD qF)))))
theorem ask_sick {bs br bd : Nat} {x : ID32}  : Spec Tryz.prog 16 [.pointer (some ⟨bs, 0, none⟩), .agg (iC x).toArray, .bool true] [] [cl bs 66 [.pointer (some ⟨br, 0, none⟩), .pointer (some ⟨bd, 0, none⟩), .bool true]] (fun v D' M' => v = .int .i64 13 ∧ D' = [] ∧ M' = [cl bs 66 [.pointer (some ⟨br, 0, none⟩), .pointer (some ⟨bd, 0, none⟩), .bool true]]) := by
 refine zv (n := 16) Tryz.func16 ?_
 intro σ D M
 have hx2 := x.2
 have hx3 := yw x
 refine O (y6 R R R (fun b4 => ?_))
 refine V R R (zu (zO (A := cl b4 38 (iC x)) qP ?_))
 refine z8 (ze (O (E R R (I (yV R R ?_)))))
 refine O (E R R (zx R zI R qN ?_))
 refine zH R (ev2 R R) qD qS (record_spec (k := 6) (x := x)) jF ?_
 refine zH R (ev3 R R R) qD qS (note_sick) jF ?_
 exact V R R (I (zo (zL (zy R R ⟨R, R, R⟩ qD qF))))
theorem stage_sick {bs br bd : Nat} {a : Value}  : Spec Tryz.prog 17 [.pointer (some ⟨bs, 0, none⟩), a] [] [cl bs 66 [.pointer (some ⟨br, 0, none⟩), .pointer (some ⟨bd, 0, none⟩), .bool true]] (fun v D' M' => v = .int .i64 13 ∧ D' = [] ∧ M' = [cl bs 66 [.pointer (some ⟨br, 0, none⟩), .pointer (some ⟨bd, 0, none⟩), .bool true]]) := by
 refine zv (n := 29) Tryz.func17 ?_
 intro σ D M
 refine O (V R R (I (ze (O (E R R (zJ R R ?_))))))
 refine zg R fo66_2 R ?_
 refine zf R sc4 R qC ?_
 refine I (yV R R ?_)
 exact O (V R R (I (zo (zL (zy R R ⟨R, R, R⟩ qD qF)))))
theorem sync_sick {bs br bd : Nat}   : Spec Tryz.prog 18 [.pointer (some ⟨bs, 0, none⟩)] [] [cl bs 66 [.pointer (some ⟨br, 0, none⟩), .pointer (some ⟨bd, 0, none⟩), .bool true]] (fun v D' M' => v = .int .i64 13 ∧ D' = [] ∧ M' = [cl bs 66 [.pointer (some ⟨br, 0, none⟩), .pointer (some ⟨bd, 0, none⟩), .bool true]]) := by
 refine zv (n := 20) Tryz.func18 ?_
 intro σ D M
 refine O (V R R (I (ze (O (E R R (zJ R R ?_))))))
 refine zg R fo66_2 R ?_
 refine zf R sc4 R qC ?_
 refine I (yV R R ?_)
 exact O (V R R (I (zo (zL (zy R R ⟨R, R, R⟩ qD qF)))))
theorem gc_sick {bs br bd : Nat}   : Spec Tryz.prog 11 [.pointer (some ⟨bs, 0, none⟩)] [] [cl bs 66 [.pointer (some ⟨br, 0, none⟩), .pointer (some ⟨bd, 0, none⟩), .bool true]] (fun v D' M' => v = .tuple #[.int .i64 0, .int .i64 13] ∧ D' = [] ∧ M' = [cl bs 66 [.pointer (some ⟨br, 0, none⟩), .pointer (some ⟨bd, 0, none⟩), .bool true]]) := by
 refine zv (n := 35) Tryz.func11 ?_
 intro σ D M
 refine O (V R R (V R R (I (ze (O (E R R (zJ R R ?_)))))))
 refine zg R fo66_2 R ?_
 refine zf R sc4 R qC ?_
 refine I (yV R R ?_)
 exact O (V R R (V R R (I (zo (zL (x8 R R R ⟨R, R, R⟩ qD qF))))))
theorem scrub_sick {bs br bd : Nat}   : Spec Tryz.prog 12 [.pointer (some ⟨bs, 0, none⟩)] [] [cl bs 66 [.pointer (some ⟨br, 0, none⟩), .pointer (some ⟨bd, 0, none⟩), .bool true]] (fun v D' M' => v = .tuple #[.slice none 0 0, .int .i64 13] ∧ D' = [] ∧ M' = [cl bs 66 [.pointer (some ⟨br, 0, none⟩), .pointer (some ⟨bd, 0, none⟩), .bool true]]) := by
 refine zv (n := 78) Tryz.func12 ?_
 intro σ D M
 refine O (V R R (V R R (I (ze (O (E R R (zJ R R ?_)))))))
 refine zg R fo66_2 R ?_
 refine zf R sc4 R qC ?_
 refine I (yV R R ?_)
 exact O (V R R (V R R (I (zo (zL (x8 R R R ⟨R, R, R⟩ qD qF))))))
theorem add_sick {bs br bd : Nat} {x : Tr} {ta : Option Addr} {tl tc : Nat} {a : Value}  : Spec Tryz.prog 6 [.pointer (some ⟨bs, 0, none⟩), .agg (iRow x ta tl tc).toArray, a] [] [cl bs 66 [.pointer (some ⟨br, 0, none⟩), .pointer (some ⟨bd, 0, none⟩), .bool true]] (fun v D' M' => v = .tuple #[.agg (iC zID).toArray, .int .i64 13] ∧ D' = [] ∧ M' = [cl bs 66 [.pointer (some ⟨br, 0, none⟩), .pointer (some ⟨bd, 0, none⟩), .bool true]]) := by
 refine zv (n := 102) Tryz.func6 ?_
 intro σ D M
 refine O (y6 R R R (fun b3 => ?_))
 refine y6 R R R (fun b4 => ?_)
 refine zC R ze38 (fun b6 => ?_)
 refine V R R (zu (zO (A := cl b3 24 [.pointer (some ⟨bs, 0, none⟩)]) qP ?_))
 refine z8 (ze (O (zf R sc24 R qC ?_)))
 refine zJ R R ?_
 refine zg R fo66_2 R ?_
 refine zf R sc4 R qC ?_
 refine I (yV R R ?_)
 refine O (yq R bua38 (zQ (out := (j8 :: j8 :: j8 :: j8 :: j8 :: j8 :: j8 :: j8 :: j8 :: j8 :: j8 :: j8 :: j8 :: j8 :: j8 :: j8 :: j8 :: j8 :: j8 :: j8 :: j8 :: j8 :: j8 :: j8 :: j8 :: j8 :: j8 :: j8 :: j8 :: j8 :: j8 :: j8 :: [])) R) ?_)
 refine zz zI R R qL qO qU qW ?_
 exact V R R (I (zo (zL (yW R zI R qN R ⟨R, R, R⟩ qD qF))))
theorem hold_spec {bs br bd bb bp bh ba tn : Nat} {k : Dk} {rs : List Rc} {pl : IvM} {hl al : SnM} {f : Fz} {x : ID32} (hx : look pl x ≠ none) (hsp : cstB 32 ≤ hfN k.n - csts rs) (hs0 : csts rs ≤ hfN k.n) : Spec Tryz.prog 9 [.pointer (some ⟨bs, 0, none⟩), .agg (iC x).toArray, .bool true] [cl br 128 (rgC bp bh ba), cl k.bd 51 [.pointer (some ⟨k.bf, 0, none⟩), .slice (some ⟨k.sb, 0, none⟩) k.n k.n, .map (some k.bl)]] [cl bs 66 [.pointer (some ⟨br, 0, none⟩), .pointer (some ⟨bd, 0, none⟩), .bool false], dpA bd bb k f tn rs, mp bp aK ivV pl, mp bh aK iK hl, mp ba aK iK al] (fun v D' M' => ∃ (e : Int) (f2 : Fz) (rs2 : List Rc) (hl2 : SnM) (sk2 : Bool), v = .int .i64 e ∧ (NtP f rs (4, x.1) hl (put hl x 1) e f2 rs2 hl2 sk2) ∧ D' = [] ∧ M' = [cl bs 66 [.pointer (some ⟨br, 0, none⟩), .pointer (some ⟨bd, 0, none⟩), .bool sk2], dpA bd bb k f2 tn rs2, mp bp aK ivV pl, mp bh aK iK hl2, mp ba aK iK al]) := by
 refine zv (n := 16) Tryz.func9 ?_
 intro σ D M
 have hx2 := x.2
 have hx3 := yw x
 refine O (y6 R R R (fun b4 => ?_))
 refine V R R (zu (zO (A := cl b4 38 (iC x)) qP ?_))
 refine z8 (ze (O (E R R (I (yV R R ?_)))))
 refine O (E R R (zx R zI R qN ?_))
 refine zH R (ev2 R R) qD qS (record_spec (k := 4) (x := x)) jF ?_
 refine zp R (ev3 R R R) qD qS (note4_spec (pl := pl) (hl := hl) (al := al) (f := f) (x := x) ⟨by show 1 ≤ 4; decide, by show 4 ≤ 200; decide, by show x.1.length ≤ 4096; omega⟩ hx (by rw [hx2]; exact hsp) hs0) ?_
 rintro _ _ _ ⟨e, f2, rs2, hl2, sk2, rfl, hnt, rfl, rfl⟩
 refine zm qA qA ?_
 exact V R R (I (zo (zL (zy R R ⟨_, _, _, _, _, R, hnt, R, R⟩ qD qF))))
theorem free_spec {bs br bd bb bp bh ba tn : Nat} {k : Dk} {rs : List Rc} {pl : IvM} {hl al : SnM} {x : ID32} (hx : look hl x ≠ none) (hsp : cstB 32 ≤ hfN k.n - csts rs) (hs0 : csts rs ≤ hfN k.n) : Spec Tryz.prog 9 [.pointer (some ⟨bs, 0, none⟩), .agg (iC x).toArray, .bool false] [cl br 128 (rgC bp bh ba), cl k.bd 51 [.pointer (some ⟨k.bf, 0, none⟩), .slice (some ⟨k.sb, 0, none⟩) k.n k.n, .map (some k.bl)]] [cl bs 66 [.pointer (some ⟨br, 0, none⟩), .pointer (some ⟨bd, 0, none⟩), .bool false], dpA bd bb k none tn rs, mp bp aK ivV pl, mp bh aK iK hl, mp ba aK iK al] (fun v D' M' => v = .int .i64 0 ∧ D' = [] ∧ M' = [cl bs 66 [.pointer (some ⟨br, 0, none⟩), .pointer (some ⟨bd, 0, none⟩), .bool false], dpA bd bb k none tn (rs ++ [(5, x.1)]), mp bp aK ivV pl, mp bh aK iK (del hl x), mp ba aK iK al]) := by
 refine zv (n := 16) Tryz.func9 ?_
 intro σ D M
 have hx2 := x.2
 have hx3 := yw x
 refine O (y6 R R R (fun b4 => ?_))
 refine V R R (zu (zO (A := cl b4 38 (iC x)) qP ?_))
 refine z8 (ze (O (E R R (I (zR R R ?_)))))
 refine zq (z8 (O (E R R (zx R zI R qN ?_))))
 refine zH R (ev2 R R) qD qS (record_spec (k := 5) (x := x)) jF ?_
 refine zp R (ev3 R R R) qD qS (note5_spec (pl := pl) (hl := hl) (al := al) (x := x) ⟨by show 1 ≤ 5; decide, by show 5 ≤ 200; decide, by show x.1.length ≤ 4096; omega⟩ hx (by rw [hx2]; exact hsp) hs0) ?_
 rintro _ _ _ ⟨rfl, rfl, rfl⟩
 refine zm qA qA ?_
 exact V R R (I (zo (zy R R ⟨R, R, R⟩ qD qF)))
theorem sopen_spec {k : Dk} (h4 : 4 ≤ k.n) (h6 : k.n ≤ 60000) : Spec Tryz.prog 13 [.pointer (some ⟨k.bd, 0, none⟩)] [cl k.bd 51 [.pointer (some ⟨k.bf, 0, none⟩), .slice (some ⟨k.sb, 0, none⟩) k.n k.n, .map (some k.bl)]] [dkA k none (List.replicate k.n zB)] (fun v D' M' => ∃ (bs br bd bb bp bh ba : Nat), v = .tuple #[.pointer (some ⟨bs, 0, none⟩), .int .i64 0] ∧ D' = [cl br 128 (rgC bp bh ba)] ∧ M' = [cl bs 66 [.pointer (some ⟨br, 0, none⟩), .pointer (some ⟨bd, 0, none⟩), .bool false], dpA bd bb k none 1 [], mp bp aK ivV [], mp bh aK iK [], mp ba aK iK []]) := by
 refine zv (n := 31) Tryz.func13 ?_
 intro σ D M
 refine O (V R R (V R R (I (O (E R R (zp R (ev1 R) qD qS (bkopen_spec h4 h6) ?_))))))
 rintro _ _ _ ⟨bb, wa, wn, wc, rfl, hwn, rfl, rfl⟩
 refine zm qA qA ?_
 subst hwn
 refine L.eqv qP (show own 3 85 wa 0 wc ((([] : List RcA)).map rcC) = own 3 85 wa 0 wc ((posL (bsN k.n 1) []).map rcC) from R) ?_
 refine yF qP ?_
 refine E R R (zr R R R (zr R R R (zr R R R (V R R (V R R (V R R (I (ze (O (E R R (zZ R R R (I (zR R (decide_eq_false (fun q => q R)) ?_)))))))))))))
 refine zq (z8 (O (zp R (xu) qD qS (rgnew_spec) ?_)))
 rintro _ _ _ ⟨br, bp, bh, ba, rfl, rfl, rfl⟩
 refine zm qA qA ?_
 refine L.freeze (A := cl br 128 (rgC bp bh ba)) qP ?_
 refine E R R (E R R (zp R (ev2 R R) qD qS (dload_spec (tn := 1) (rs := []) .nil (fun r h => by cases h) jD) ?_))
 rintro _ _ _ ⟨bd, rfl, rfl, rfl⟩
 refine zm qA qA ?_
 refine yq R bu66 (zF R R R <| zF R R R <| zQ (out := [Value.bool false]) R) ?_
 refine y6 R R R (fun b22 => ?_)
 refine V R R (I (ze (O (E R R (zJ R R ?_)))))
 refine zg R xr R ?_
 refine zf R sc63 R qC ?_
 refine E R R (zH R (ev2 R R) qD qS (rgall0_spec) jF ?_)
 refine x7 R R (I (zR R R ?_))
 exact zq (z8 (O (E R R (V R R (V R R (I (zo (x8 R R R ⟨_, _, _, _, _, _, _, R, R, R⟩ qD qF))))))))
theorem sopen3_spec {k : Dk} {cur : List Bk} (h3 : k.n = 3) : Spec Tryz.prog 13 [.pointer (some ⟨k.bd, 0, none⟩)] [cl k.bd 51 [.pointer (some ⟨k.bf, 0, none⟩), .slice (some ⟨k.sb, 0, none⟩) k.n k.n, .map (some k.bl)]] [dkA k none cur] (fun v D' M' => v = .tuple #[.pointer none, .int .i64 10] ∧ D' = [] ∧ M' = [dkA k none cur]) := by
 refine zv (n := 31) Tryz.func13 ?_
 intro σ D M
 refine O (V R R (V R R (I (O (E R R (zH R (ev1 R) qD qS (bkopen3_spec h3) jF ?_))))))
 refine E R R (zr R R R (zr R R R (zr R R R (V R R (V R R (V R R (I (ze (O (E R R (zZ R R R (I (yV R (decide_eq_true jD) ?_)))))))))))))
 exact O (E R R (V R R (V R R (I (zo (zL (x8 R R R ⟨R, R, R⟩ qD qF)))))))
end Cv
