/-
  The walks: books: turned.
-/
import Derived.Test.YtncgoodlhmpfcaaGreatE16
set_option linter.all false
set_option maxHeartbeats 400000
set_option maxRecDepth 10000
namespace Cv
open Go Go.Proofs
/-! ## books: turned -/
abbrev RcA := Rc × Int
@[reducible] def rcC (r : RcA) : List Value := [.int .i64 (r.1.1 : Int), S r.1.2, .int .i64 r.2]
def posL : Nat → List Rc → List RcA
  | _, [] => []
  | p, r :: rs => (r, (p : Int)) :: posL (p + cstB r.2.length) rs
theorem csts_cons {r : Rc} {rs : List Rc} : csts (r :: rs) = cstB r.2.length + csts rs := by unfold csts; rw [List.map_cons, List.sum_cons]
theorem csts_snoc {r : Rc} {rs : List Rc} : csts (rs ++ [r]) = csts rs + cstB r.2.length := by unfold csts; rw [List.map_append, List.sum_append]; simp
theorem posL_snoc {r : Rc} : ∀ {rs : List Rc} {p : Nat}, posL p (rs ++ [r]) = posL p rs ++ [(r, ((p + csts rs : Nat) : Int))]
  | [], p => rfl
  | q :: rs, p => by
    rw [List.cons_append, posL, posL_snoc, posL, List.cons_append, csts_cons, show p + cstB q.2.length + csts rs = p + (cstB q.2.length + csts rs) by omega]
theorem posL_len : ∀ {rs : List Rc} {p : Nat}, (posL p rs).length = rs.length
  | [], _ => rfl
  | r :: rs, p => by rw [posL, List.length_cons, posL_len, List.length_cons]
theorem csts_take {l : List Rc} {i : Nat} {r : Rc} (h : l[i]? = some r) : csts (l.take (i + 1)) = csts (l.take i) + cstB r.2.length := by
  rw [List.take_add_one, h]; exact csts_snoc
theorem csts_le : ∀ {l : List Rc} {i : Nat}, csts (l.take i) ≤ csts l
  | [], i => by rw [List.take_nil]; exact Nat.le_refl _
  | r :: l, 0 => Nat.zero_le _
  | r :: l, i + 1 => by rw [List.take_succ_cons, csts_cons, csts_cons]; have := @csts_le l i; omega
theorem csts_len : ∀ {l : List Rc}, l.length ≤ csts l
  | [] => Nat.le_refl _
  | r :: l => by rw [List.length_cons, csts_cons]; have := @csts_len l; have := @cstB_pos r.2.length; omega
theorem RecsP.cur {cur cur2 : List Bk} {pv : PvM} : ∀ {rs : List Rc} {p : Nat} {s : List UInt8} {e : Nat} {t : List UInt8}, RecsP cur pv p s rs e t → (∀ i, p ≤ i → i < e → cur2[i]? = cur[i]?) → RecsP cur2 pv p s rs e t
  | [], _, _, _, _, h, _ => h
  | r :: rs, p, s, e, t, h, hc => by
    obtain ⟨⟨z, h1⟩, h2, h3⟩ := h
    have hl := h3.le
    exact ⟨⟨z, by rw [rdB_eq fun i a b => hc i a (by omega)]; exact h1⟩, h2, h3.cur fun i a b => hc i (by omega) b⟩
theorem BokP.nil {N tn : Nat} {cur : List Bk} (bp : Nat) (h : cur.length = N) (h4 : 4 ≤ N) (h6 : N ≤ 60000) (ht : tn ≤ 1000000) : BokP N tn [] ⟨cur, [], bsN N tn, sdT tn, bp⟩ := by
  unfold BokP RecsP
  dsimp only
  exact ⟨h, ⟨R, R⟩, Nat.le_add_right _ _, fun r hr => (by cases hr), h4, h6, ht⟩
theorem BokP.pad {N tn : Nat} {rs : List Rc} {x : BkX} (h : BokP N tn rs x) {ts : List (List UInt8)} {p : Nat} (hp : p + ts.length ≤ N) (hq : p + ts.length ≤ bsN N tn ∨ x.e ≤ p) : BokP N tn rs ⟨wrC x.cur p ts, x.pv, x.e, x.sm, x.bp⟩ := by
  obtain ⟨h1, h2, h3, h4, h5, h6, h7⟩ := h
  have g : RecsP (wrC x.cur p ts) x.pv (bsN N tn) (sdT tn) rs x.e x.sm := h2.cur fun i a b => by
    rw [wrC_get _ _ _ _ (by omega), if_neg (by omega)]
  unfold BokP
  dsimp only
  exact ⟨(wrC_len _ _ _).trans h1, g, h3, h4, h5, h6, h7⟩
theorem hdT_len {t : Nat} (h : t ≤ 4611686018427387904) : (hdT t).length ≤ 64 := by
  have := numB_len (n := t) (by omega)
  unfold hdT
  rw [List.length_append, xE]; omega
theorem rd_zero {N p : Nat} (h : p < N) : rdB (List.replicate N zB) p 1 = List.replicate 64 0 := by
  have hg : (List.replicate N zB)[p + 0]? = some zB := by rw [List.getElem?_replicate, if_pos (by omega)]
  rw [show (1 : Nat) = 0 + 1 from rfl, rdB_s hg]; rfl

theorem bapp0_spec {bb tn : Nat} {k : Dk} {rs : List Rc} {kd : Nat} {d : List UInt8} (hr : RcOk (kd, d)) (hc : csts rs + cstB d.length ≤ hfN k.n) : Spec Tryz.prog 80 [.pointer (some ⟨bb, 0, none⟩), .int .i64 (kd : Int), S d] [cl k.bd 51 [.pointer (some ⟨k.bf, 0, none⟩), .slice (some ⟨k.sb, 0, none⟩) k.n k.n, .map (some k.bl)]] [bkA bb k none tn rs] (fun v D' M' => v = .tuple #[.agg (rcC ((kd, d), ((bsN k.n tn + csts rs : Nat) : Int))).toArray, .int .i64 0] ∧ D' = [] ∧ M' = [bkA bb k none tn (rs ++ [(kd, d)])]) := bapp_spec (f := none) hr hc
theorem dwrite0_spec {k : Dk} {p n c : Nat} {a : Option Addr} {ts : List (List UInt8)} {cur : List Bk} (hp : p + n ≤ k.n) (hn : k.n ≤ 60000) (ht : ∀ t ∈ ts, t.length ≤ 64) : Spec Tryz.prog 134 [.pointer (some ⟨k.bd, 0, none⟩), .int .i64 (p : Int), .slice a n c] [cl k.bd 51 [.pointer (some ⟨k.bf, 0, none⟩), .slice (some ⟨k.sb, 0, none⟩) k.n k.n, .map (some k.bl)], rsl 1 a n c (ts.map ys)] [dkA k none cur] (fun v D' M' => v = .int .i64 0 ∧ D' = [] ∧ M' = [dkA k none (wrC cur p ts)]) := dwrite_spec (f := none) hp hn ht
theorem dsync0_spec {k : Dk} {cur : List Bk} (hn : k.n ≤ 60000) : Spec Tryz.prog 54 [.pointer (some ⟨k.bd, 0, none⟩)] [cl k.bd 51 [.pointer (some ⟨k.bf, 0, none⟩), .slice (some ⟨k.sb, 0, none⟩) k.n k.n, .map (some k.bl)]] [dkA k none cur] (fun v D' M' => v = .int .i64 0 ∧ D' = [] ∧ M' = [dkA k none cur]) := dsync_spec (f := none) hn
theorem brew_spec {bb tn n c : Nat} {k : Dk} {rs : List Rc} {a : Option Addr} {l : List RcA} (hok : ∀ r ∈ l, RcOk r.1) (hcs : csts (l.map (·.1)) < hfN k.n) (htn : tn ≤ 900000) : Spec Tryz.prog 98 [.pointer (some ⟨bb, 0, none⟩), .slice a n c] [cl k.bd 51 [.pointer (some ⟨k.bf, 0, none⟩), .slice (some ⟨k.sb, 0, none⟩) k.n k.n, .map (some k.bl)], rsl 3 a n c (l.map rcC)] [bkA bb k none tn rs] (fun v D' M' => ∃ (a' : Option Addr) (n' c' : Nat), v = .tuple #[.slice a' n' c', .int .i64 0] ∧ (l.length = n') ∧ D' = [] ∧ M' = [bkA bb k none (tn + 1) (l.map (·.1)), own 3 85 a' n' c' ((posL (bsN k.n (tn + 1)) (l.map (·.1))).map rcC)]) := by
 refine zv (n := 134) Tryz.func98 ?_
 intro σ D M
 refine yU (a := a) (len := n) (cap := c) (rows := l.map rcC) qM (fun hl hc => ?_)
 rw [List.length_map] at hl
 refine T.bkU qP (fun x hx => ?_)
 obtain ⟨h1, h2, h3, h4, h5, h6, h7⟩ := id hx
 have hln := @csts_len (l.map (·.1))
 rw [List.length_map] at hln
 have hfb : hfN k.n ≤ 60000 := by unfold hfN; omega
 refine O (V R R (V R R (I (O (V R R (I (ze (O (E R R (yb R xz R (E R R (I (zD (y8 (fun K' D' M' μ => ∃ (i : Nat), (i ≤ n) ∧ K' = [(21, .int .i64 (i : Int)), (6, .int .i64 ((csts ((l.map (·.1)).take i) : Nat) : Int))] ∧ D' = [] ∧ M' = [cl bb 124 [.pointer (some ⟨k.bd, 0, none⟩), .int .i64 (tn : Int), S (x.sm), .int .i64 (x.e : Int), .map (some x.bp)], dkA k none x.cur] ∧ μ = n - i) (.c 0 R <| .c 1 R <| .c 19 R <| .c 20 R <| zd _) (⟨0, Nat.zero_le _, R, R, R, R⟩) (.c 21 R <| .c 6 R <| zd _) qD qS ?_))))))))))))))
 rintro K1 D1 M1 m1 ⟨i, hi, rfl, rfl, rfl, rfl⟩
 refine zM qA qA qA ?_
 refine O (zW R R R (I (ze (zA R (fun h22 => ?_) (fun h22 => ?_)))))
 ·try simp only [dq] at h22
  refine zq (z8 (ze (zD (ze ?_))))
  have hgi : l[i]? = some (gd l i) := y9 jO
  obtain ⟨r, hr_⟩ : ∃ z, z = gd l i := ⟨_, rfl⟩
  rw [← hr_] at hgi
  clear hr_
  have hgr : (l.map rcC)[i]? = some (rcC r) := yJ hgi
  have hgf : (l.map (·.1))[i]? = some r.1 := yJ hgi
  have hro := hok r (List.mem_of_getElem? hgi)
  obtain ⟨hr1, hr2, hr3⟩ := id hro
  have hct := csts_take hgf
  have hcm := @csts_le (l.map (·.1)) (i + 1)
  refine zt (yP (i := i) R xz sz85 R R qM jR qG (fun b23 o23 => ?_))
  refine zx R yD R (xl qM R) ?_
  refine zC R ze85 (fun b8 => ?_)
  refine zz yD R R qL qO qU qW ?_
  refine I (ze (O (zg R x9 R ?_)))
  refine zf R sc3 R qC ?_
  refine zW R R R (E R R (zE (t := 28) R (show _ = Value.bool false from congrArg Value.bool (decide_eq_false jO)) ?_))
  refine zj 28 R R R (zg R x9 R ?_)
  refine zj 28 R R R (zf R sc3 R qC ?_)
  refine zj 28 R R R (yy R R R (yg R R R (E R R (zE (t := 33) R (show _ = Value.bool false from congrArg Value.bool (decide_eq_false jO)) ?_))))
  refine zj 33 R R R (zg R fo85_1 R ?_)
  refine zj 33 R R R (zf R sc9 R qC ?_)
  refine zj 33 R R R (yL R ye R (zj 33 R R R (yy R R R (yg R R R (I (zR R (decide_eq_false jO) ?_))))))
  refine zq (z8 (zt (E R R (zg R fo85_1 R ?_))))
  refine zf R sc9 R qC ?_
  refine yL R ye R (zH R (ev1 R) qD qS (cost_spec (d := r.1.2.length) jO) jF ?_)
  refine zT R R R jO ?_
  refine zE (t := 44) (u := .int .i64 ((csts ((l.map (·.1)).take (i + 1)) : Nat) : Int)) R (congrArg (Value.int .i64) jO) ?_
  refine V R R (zu (zS (z8 (zt (zT R R R jO ?_)))))
  exact E R R (I (zV ⟨i + 1, jO, R, R, R, R⟩ qI (.c 21 R <| .c 6 R <| zd _) (.c 0 R <| .c 1 R <| .c 19 R <| .c 20 R <| zd _) qD qD qF))
 try simp only [dq] at h22
 have hil : (l.map (·.1)).length ≤ i := by rw [List.length_map]; omega
 rw [List.take_of_length_le hil]
 refine y4 (zG (zG (y5 (z8 (ze (O (E R R (E R R (zH R (ev1 R) qD qS (half_spec jO h6) jF ?_)))))))))
 refine yy R R R (I (zR R (decide_eq_false jO) ?_))
 refine zq (z8 (O (E R R (E R R (zJ R R ?_)))))
 refine zg R fo124_1 R ?_
 refine zf R sc3 R qC ?_
 refine zT R R R jO ?_
 refine zE (t := 55) (u := .int .i64 ((tn + 1 : Nat) : Int)) R (congrArg (Value.int .i64) jO) ?_
 refine zp R (ev2 R R) qD qS (begin_spec (u := tn + 1) jO h6 jO) ?_
 rintro _ _ _ ⟨bp2, rfl, rfl, rfl⟩
 refine zm qA qA ?_
 refine zu (T.bkF (cur := x.cur) (pv := []) (e := (bsN k.n (tn + 1))) (sm := sdT (tn + 1)) (bp := bp2) (BokP.nil bp2 h1 h5 h6 jO) qS ?_)
 refine z8 (O (V R R (zu (yM (sz := 3) (e := 85) ?_))))
 refine y3 qP (show own 3 85 none 0 0 [] = own 3 85 none 0 0 ((posL (bsN k.n (tn + 1)) ((l.map (·.1)).take 0)).map rcC) from R) ?_
 refine y3 qP (show bkA bb k none (tn + 1) [] = bkA bb k none (tn + 1) ((l.map (·.1)).take 0) from R) ?_
 refine z8 (ze (O (E R R (yb R xz R (E R R (I (zD (y8 (fun K' D' M' μ => ∃ (i oc : Nat) (oa : Option Addr), (i ≤ n) ∧ K' = [(59, .int .i64 (i : Int)), (9, .slice oa i oc)] ∧ D' = [] ∧ M' = [bkA bb k none (tn + 1) ((l.map (·.1)).take i), own 3 85 oa i oc ((posL (bsN k.n (tn + 1)) ((l.map (·.1)).take i)).map rcC)] ∧ μ = n - i) (.c 0 R <| .c 57 R <| .c 58 R <| zd _) (⟨0, _, _, Nat.zero_le _, R, R, R, R⟩) (.c 59 R <| .c 9 R <| zd _) qD qS ?_))))))))
 rintro K1 D1 M1 m1 ⟨i, oc, oa, hi, rfl, rfl, rfl, rfl⟩
 refine zM qA qA qA ?_
 refine O (zW R R R (I (ze (zA R (fun h60 => ?_) (fun h60 => ?_)))))
 ·try simp only [dq] at h60
  refine zq (z8 (ze (zD (ze ?_))))
  have hgi : l[i]? = some (gd l i) := y9 jO
  obtain ⟨r, hr_⟩ : ∃ z, z = gd l i := ⟨_, rfl⟩
  rw [← hr_] at hgi
  clear hr_
  have hgr : (l.map rcC)[i]? = some (rcC r) := yJ hgi
  have hgf : (l.map (·.1))[i]? = some r.1 := yJ hgi
  have hro := hok r (List.mem_of_getElem? hgi)
  obtain ⟨hr1, hr2, hr3⟩ := id hro
  have hct := csts_take hgf
  have hcm := @csts_le (l.map (·.1)) (i + 1)
  refine zt (yP (i := i) R xz sz85 R R qM jR qG (fun b61 o61 => ?_))
  refine zx R yD R (xl qM R) ?_
  refine zC R ze85 (fun b11 => ?_)
  refine zz yD R R qL qO qU qW ?_
  refine I (O (E R R (zg R x9 R ?_)))
  refine zf R sc3 R qC ?_
  refine zg R fo85_1 R ?_
  refine zf R sc9 R qC ?_
  refine zp R (ev3 R R R) qD qS (bapp0_spec (tn := tn + 1) (kd := r.1.1) (d := r.1.2) hro jO) ?_
  rintro _ _ _ ⟨rfl, rfl, rfl⟩
  refine zm qA qA ?_
  refine E R R (zr R R R (zr R R R (zC R ze85 (fun b12 => ?_))))
  refine zz yD R R qL qO qU qW ?_
  refine V R R (I (ze (O (E R R (zZ R R R (I (zR R (decide_eq_false (fun q => q R)) ?_)))))))
  refine zq (z8 (zt (E R R (zx R yD R qN ?_))))
  refine yl R bs115 jD (yG R R j1 (Nat.le_of_ble_eq_true R) qR <| zQ (out := []) R) (fun b77 => ?_)
  refine x6 R xz el85 R R qP qM R qO1 qI qI (fun a78 c78 => ?_)
  refine V R R (zu (zS (z8 (zt (zT R R R jO ?_)))))
  refine E R R (zu (z8 ?_))
  rw [show (l.map (·.1)).take i ++ [r.1] = (l.map (·.1)).take (i + 1) by rw [List.take_add_one, hgf]; rfl]
  refine yp _ ((posL (bsN k.n (tn + 1)) ((l.map (·.1)).take (i + 1))).map rcC) qP (by rw [List.take_add_one, hgf]; show _ = (posL _ (_ ++ [r.1])).map rcC; rw [posL_snoc, List.map_append]; rfl) ?_
  exact zV ⟨i + 1, _, _, jO, R, R, R, R⟩ qI (.c 59 R <| .c 9 R <| zd _) (.c 0 R <| .c 57 R <| .c 58 R <| zd _) qD qD qF
 try simp only [dq] at h60
 have hil : (l.map (·.1)).length ≤ i := by rw [List.length_map]; omega
 rw [List.take_of_length_le hil]
 refine T.bkU qP (fun y hy => ?_)
 obtain ⟨g1, g2, g3, g4, g5, g6, g7⟩ := id hy
 have hen := hy.en
 have hbn := @bsN_le k.n (tn + 1) jO
 have hhd := hdT_len (t := tn + 1) jO
 refine y4 (zG (zG (y5 (z8 (ze (O (E R R (zH R (ev1 R) qD qS (left_spec (tn := tn + 1) (e := y.e) jO h6 g3) jF ?_))))))))
 obtain ⟨m, hm⟩ : ∃ m, m = bsN k.n (tn + 1) + hfN k.n - y.e := ⟨_, rfl⟩
 rw [← hm]
 refine V R R (I (O (E R R (yy R R R (I (yV R (decide_eq_true jO) ?_))))))
 refine ze (y7 (clsL [1, 0, 1, 0, 1, 0, 1, 0, 1, 0, 2, 1]) qk ?_)
 refine z9 0 R R (E R R (z7 (z9 4 R R (E R R (z7 (z9 8 R R (E R R (z7 (yE (i := 1) R R qk qk qk qk R qD qF R ?_)))))))))
 refine z9 2 R R (zg R fo124_0 R ?_)
 refine z7 (zY (i := 3) R R R R qk qk qk qk R qD qF ?_)
 refine zf R sc23 R qC ?_
 refine z7 (yE (i := 5) R R qk qk qk qk R qD qF R ?_)
 refine z9 6 R R (zg R fo124_3 R ?_)
 refine z7 (zY (i := 7) R R R R qk qk qk qk R qD qF ?_)
 refine zf R sc3 R qC ?_
 refine z7 (zi 9 R (L.makeRows (k := m) (sz := 1) (bs := 16) (z := S []) (zs := [S []]) R R xp qk R R R R R jO jO (fun b93 => ?_)))
 refine L.ownEq _ ((List.replicate m ([] : List UInt8)).map ys) qP (by rw [List.map_replicate]) ?_
 refine yF (rows := (List.replicate m ([] : List UInt8)).map ys) qP ?_
 refine yH R qD qF ?_
 refine zi 10 R (zp R (ev3 R R R) qD qS (dwrite0_spec (p := y.e) (ts := List.replicate m []) (cur := y.cur) jO h6 (fun t ht => by rw [List.eq_of_mem_replicate ht]; decide)) ?_)
 rintro _ _ _ ⟨rfl, rfl, rfl⟩
 refine zm qA qA ?_
 refine zh R qD ?_
 refine z9 11 R R (V R R (z7 (zN qk ?_)))
 refine z8 (O (E R R (zZ R R R (I (zR R (decide_eq_false (fun q => q R)) ?_)))))
 refine zq (z8 (ze (O (E R R (zJ R R ?_)))))
 refine zg R fo124_0 R ?_
 refine zf R sc23 R qC ?_
 refine zp R (ev1 R) qD qS (dsync0_spec h6) ?_
 rintro _ _ _ ⟨rfl, rfl, rfl⟩
 refine zm qA qA ?_
 refine V R R (I (O (E R R (zZ R R R (I (zR R (decide_eq_false (fun q => q R)) ?_))))))
 refine zq (z8 (ze (ze (y7 (clsL [1, 0, 1, 0, 1, 0, 1, 0, 1, 1, 0, 1, 0, 0, 0, 2, 1]) qk ?_))))
 refine z9 0 R R (E R R (z7 (z9 4 R R (E R R (z7 (z9 9 R R (E R R (z7 (yE (i := 1) R R qk qk qk qk R qD qF R ?_)))))))))
 refine z9 2 R R (zg R fo124_0 R ?_)
 refine z7 (zY (i := 3) R R R R qk qk qk qk R qD qF ?_)
 refine zf R sc23 R qC ?_
 refine z7 (yE (i := 5) R R qk qk qk qk R qD qF R ?_)
 refine z9 6 R R (zg R fo124_1 R ?_)
 refine z7 (zY (i := 7) R R R R qk qk qk qk R qD qF ?_)
 refine zf R sc3 R qC ?_
 refine z7 (z9 8 R R (L.remN R R R qI ?_))
 refine zE (t := 114) (u := .int .i64 (((tn + 1) % 2 : Nat) : Int)) R (congrArg (Value.int .i64) jO) ?_
 refine z7 (yE (i := 10) R R qk qk qk qk R qD qF R ?_)
 refine z9 11 R R (zg R fo124_1 R ?_)
 refine z7 (zY (i := 12) R R R R qk qk qk qk R qD qF ?_)
 refine zf R sc3 R qC ?_
 refine z7 (zi 13 R (zH R (ev1 R) qD qS (head_spec (t := tn + 1) jO) jF ?_))
 refine yH R qD qF ?_
 refine zi 14 R (yl R bs27 jD (zF R R R <| zQ (out := []) R) (fun b120 => ?_))
 refine yR (len := 1) qP (rows := ([hdT (tn + 1)] : List (List UInt8)).map ys) (sz := 1) (by rfl) R (by simp) ?_
 refine yF qP ?_
 refine yH R qD qF ?_
 refine zi 15 R (zp R (ev3 R R R) qD qS (dwrite0_spec (p := (tn + 1) % 2) (ts := [hdT (tn + 1)]) jO h6 (fun t ht => by rw [List.mem_singleton.1 ht]; exact hhd)) ?_)
 rintro _ _ _ ⟨rfl, rfl, rfl⟩
 refine zm qA qA ?_
 refine zh R qD ?_
 refine z9 16 R R (V R R (z7 (zN qk ?_)))
 refine z8 (O (E R R (zZ R R R (I (zR R (decide_eq_false (fun q => q R)) ?_)))))
 refine zq (z8 (ze (O (E R R (zJ R R ?_)))))
 refine zg R fo124_0 R ?_
 refine zf R sc23 R qC ?_
 refine zp R (ev1 R) qD qS (dsync0_spec h6) ?_
 rintro _ _ _ ⟨rfl, rfl, rfl⟩
 refine zm qA qA ?_
 refine V R R (I (O (E R R (zZ R R R (I (zR R (decide_eq_false (fun q => q R)) ?_))))))
 refine zq (z8 (O (E R R (V R R (V R R (I (zo (T.bkF (cur := wrC (wrC y.cur y.e (List.replicate m [])) ((tn + 1) % 2) [hdT (tn + 1)]) (pv := y.pv) (e := y.e) (sm := y.sm) (bp := y.bp) ((hy.pad (ts := List.replicate m []) (p := y.e) (by rw [List.length_replicate]; omega) (Or.inr (Nat.le_refl _))).pad (ts := [hdT (tn + 1)]) (p := (tn + 1) % 2) (by rw [List.length_singleton]; omega) (Or.inl (by rw [List.length_singleton]; unfold bsN; omega))) qS ?_))))))))
 exact x8 R R R ⟨_, _, _, R, by omega, R, R⟩ qD qF
end Cv
set_option maxRecDepth 10000
namespace Cv
open Go Go.Proofs

theorem bkopen_spec {k : Dk} (h4 : 4 ≤ k.n) (h6 : k.n ≤ 60000) : Spec Tryz.prog 50 [.pointer (some ⟨k.bd, 0, none⟩)] [cl k.bd 51 [.pointer (some ⟨k.bf, 0, none⟩), .slice (some ⟨k.sb, 0, none⟩) k.n k.n, .map (some k.bl)]] [dkA k none (List.replicate k.n zB)] (fun v D' M' => ∃ (bb : Nat) (a' : Option Addr) (n' c' : Nat), v = .tuple #[.pointer (some ⟨bb, 0, none⟩), .slice a' n' c', .int .i64 0] ∧ (n' = 0) ∧ D' = [] ∧ M' = [bkA bb k none 1 [], own 3 85 a' n' c' (([]).map rcC)]) := by
 refine zv (n := 62) Tryz.func50 ?_
 intro σ D M
 have hf1 : 1 ≤ hfN k.n := by unfold hfN; omega
 refine O (V R R (V R R (V R R (I (O (E R R (yq R bu124 (zF R R R <| zQ (out := [Value.int .i64 0, S [], Value.int .i64 0, Value.map none]) R) ?_)))))))
 refine y6 R R R (fun b16 => ?_)
 refine V R R (I (ze (O (E R R (zH R (ev1 R) qD qS (half_spec (t := 0) (e := 0) (s := []) (pv := .map none) jO jO) jF ?_)))))
 refine zW R R R (I (zR R (decide_eq_false jO) ?_))
 refine zq (z8 (O (V R R (I (ze (O (E R R (I (zD (y8 (fun K' D' M' μ => ∃ (i : Nat), (i ≤ 2) ∧ K' = [(20, .int .i64 (i : Int)), (6, .int .i64 0)] ∧ D' = [] ∧ M' = [cl b16 124 [.pointer (some ⟨k.bd, 0, none⟩), .int .i64 0, S ([]), .int .i64 0, .map none], dkA k none (List.replicate k.n zB)] ∧ μ = 2 - i) (.c 0 R <| .c 5 R <| zd _) (⟨0, Nat.zero_le _, R, R, R, R⟩) (.c 20 R <| .c 6 R <| zd _) qD qS ?_))))))))))
 rintro K1 D1 M1 m1 ⟨i, hi, rfl, rfl, rfl, rfl⟩
 refine zM qA qA qA ?_
 refine O (zW R R R (I (ze (zA R (fun h21 => ?_) (fun h21 => ?_)))))
 ·try simp only [dq] at h21
  refine zq (z8 (ze (zD (O (E R R (V R R (I (O (E R R (E R R (zp R (ev3 R R R) qD qS (dread_spec (p := i) (m := 1) (cur := (List.replicate k.n zB)) jO h6) ?_)))))))))))
  rintro _ _ _ ⟨rfl, rfl, rfl⟩
  refine zm qA qA ?_
  rw [rd_zero jO]
  refine E R R (zr R R R (zr R R R (V R R (V R R (I (ze (O (E R R (zZ R R R (I (zR R (decide_eq_false (fun q => q R)) ?_)))))))))))
  refine zq (z8 (zt (E R R (E R R (zH R (ev1 R) qD qS (phead_spec) jF ?_)))))
  refine L.maxI R R R ?_
  refine zE (t := 35) (u := .int .i64 0) R R ?_
  refine V R R (zu (zS (z8 (zt (zT R R R jO ?_)))))
  exact E R R (I (zV ⟨i + 1, jO, R, R, R, R⟩ qI (.c 20 R <| .c 6 R <| zd _) (.c 0 R <| .c 5 R <| zd _) qD qD qF))
 try simp only [dq] at h21
 refine y4 (zG (zG (y5 (z8 (O (V R R (zu (yM (sz := 3) (e := 85) ?_))))))))
 refine y3 qP (show own 3 85 none 0 0 [] = own 3 85 none 0 0 ((([] : List RcA)).map rcC) from R) ?_
 refine yQ (rows := ([] : List RcA).map rcC) qP ?_
 refine z8 (O (E R R (E R R (zp R (ev2 R R) qD qS (begin_spec (t := 0) (e := 0) (s := []) (pv := .map none) (u := 0) jO h6 jD) ?_))))
 rintro _ _ _ ⟨bp2, rfl, rfl, rfl⟩
 refine zm qA qA ?_
 refine zu (T.bkF (cur := (List.replicate k.n zB)) (pv := []) (e := bsN k.n 0) (sm := sdT 0) (bp := bp2) (BokP.nil bp2 List.length_replicate h4 h6 jD) qS ?_)
 refine z8 (ze (O (E R R (yy R R R (I (zR R (decide_eq_false jD) ?_))))))
 refine zq (z8 (O (E R R (E R R (zp R (ev2 R R) qD qS (brew_spec (tn := 0) (rs := []) (l := []) (fun r hr => by cases hr) (by show 0 < hfN k.n; omega) jD) ?_)))))
 rintro _ _ _ ⟨wa, wn, wc, rfl, hwn, rfl, rfl⟩
 refine zm qA qA ?_
 refine E R R (zr R R R (zr R R R (V R R (V R R (I (ze (O (E R R (zZ R R R (I (zR R (decide_eq_false (fun q => q R)) ?_)))))))))))
 refine zq (z8 (O (E R R (E R R (V R R (V R R (V R R (I (zo (y3 qP (show bkA b16 k none (0 + 1) (([] : List RcA).map (·.1)) = bkA b16 k none 1 [] from R) ?_))))))))))
 refine y3 qP (show own 3 85 wa wn wc ((posL (bsN k.n (0 + 1)) (([] : List RcA).map (·.1))).map rcC) = own 3 85 wa wn wc (([]).map rcC) from R) ?_
 exact T.ret3 R R R R ⟨_, _, _, _, R, by rw [← hwn]; rfl, R, R⟩ qD qF
theorem bkopen3_spec {k : Dk} {cur : List Bk} (h3 : k.n = 3) : Spec Tryz.prog 50 [.pointer (some ⟨k.bd, 0, none⟩)] [cl k.bd 51 [.pointer (some ⟨k.bf, 0, none⟩), .slice (some ⟨k.sb, 0, none⟩) k.n k.n, .map (some k.bl)]] [dkA k none cur] (fun v D' M' => v = .tuple #[.pointer none, .slice none 0 0, .int .i64 10] ∧ D' = [] ∧ M' = [dkA k none cur]) := by
 refine zv (n := 62) Tryz.func50 ?_
 intro σ D M
 have hf0 : hfN k.n = 0 := by rw [h3]; rfl
 refine O (V R R (V R R (V R R (I (O (E R R (yq R bu124 (zF R R R <| zQ (out := [Value.int .i64 0, S [], Value.int .i64 0, Value.map none]) R) ?_)))))))
 refine y6 R R R (fun b16 => ?_)
 refine V R R (I (ze (O (E R R (zH R (ev1 R) qD qS (half_spec (t := 0) (e := 0) (s := []) (pv := .map none) jO jO) jF ?_)))))
 refine zW R R R (I (yV R (decide_eq_true jO) ?_))
 exact O (V R R (V R R (V R R (I (zo (zL (T.ret3 R R R R ⟨R, R, R⟩ qD qF)))))))
end Cv
