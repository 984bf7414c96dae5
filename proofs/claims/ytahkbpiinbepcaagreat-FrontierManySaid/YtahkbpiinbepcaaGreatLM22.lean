/-
  The walks: what is needed.
-/
import Derived.Test.YtahkbpiinbepcaaGreatYc15
import Derived.Test.YtahkbpiinbepcaaGreatTT15
import Derived.Test.YtahkbpiinbepcaaGreatProg
import Derived.KernelRfl
import Derived.Test.YtahkbpiinbepcaaGreatM05
import Derived.Test.YtahkbpiinbepcaaGreatCvLd
import Derived.Test.YtahkbpiinbepcaaGreatCvLg
set_option linter.unusedVariables false
set_option linter.unusedSimpArgs false
set_option linter.unusedSectionVars false
set_option maxHeartbeats 400000
set_option maxRecDepth 10000
namespace Cv
open Go Go.Proofs
/-! ## what is needed: the plain model -/
abbrev Wnt := Int × ID32 × Int
@[reducible] def wnC (x : Wnt) : List Value := .int .i64 x.1 :: (x.2.1.1.map Y ++ [.int .i64 x.2.2])
theorem wnC_len (x : Wnt) : (wnC x).length = 34 := by simp [x.2.1.2]
theorem one_wn {x : Wnt} : ∀ u ∈ wnC x, u.oneCell' = true := fun u hu => by
  simp only [wnC, List.mem_cons, List.mem_append, List.mem_map, List.not_mem_nil, or_false] at hu
  rcases hu with rfl | ⟨b, _, rfl⟩ | rfl <;> rfl
theorem wn_last (x : Wnt) : (wnC x)[33]? = some (.int .i64 x.2.2) := by
  show (Value.int .i64 x.1 :: (x.2.1.1.map Y ++ [.int .i64 x.2.2]))[33]? = _
  rw [List.getElem?_cons_succ, List.getElem?_append_right (by rw [List.length_map, x.2.1.2]; exact Nat.le_refl _), List.length_map, x.2.1.2]; rfl
theorem wn_ext {x y : Wnt} (h1 : x.1 = y.1) (h2 : x.2.1.1 = y.2.1.1) (h3 : x.2.2 = y.2.2) : x = y := Prod.ext h1 (Prod.ext (Subtype.ext h2) h3)
theorem wn_snoc {l : List Wnt} {i : Nat} {x y : Wnt} (h : l[i]? = some y) (hn : x ∉ l.take i) (e : ¬ x = y) : x ∉ l.take (i + 1) := fun k => by
  rw [List.take_add_one, h] at k
  rcases List.mem_append.1 k with q | q
  · exact hn q
  · exact e (by simpa using q)
def ndB (os : List Ob) (x : Wnt) : Bool := decide (getE os x.2.1 = 0 ∧ (getO os x.2.1).1 = x.1)
def ndW (os : List Ob) (ws : List Wnt) (x : Wnt) : List Wnt := if ndB os x = true then ws else if x ∈ ws then ws else ws ++ [x]
theorem ndW_t {os : List Ob} {ws : List Wnt} {x : Wnt} (h : ndB os x = true) : ndW os ws x = ws := if_pos h
theorem ndW_in {os : List Ob} {ws : List Wnt} {x : Wnt} (h : x ∈ ws) : ndW os ws x = ws := by unfold ndW; rw [if_pos h]; split <;> rfl
theorem ndW_new {os : List Ob} {ws : List Wnt} {x : Wnt} (h : ndB os x = false) (k : x ∉ ws) : ndW os ws x = ws ++ [x] := by unfold ndW; rw [if_neg (by rw [h]; decide), if_neg k]
theorem ndW_len (os : List Ob) (ws : List Wnt) (x : Wnt) : (ndW os ws x).length ≤ ws.length + 1 := by
  unfold ndW; split
  · omega
  · split
    · omega
    · rw [List.length_append, List.length_singleton]; omega
@[reducible] def wkC (src th : Value) (sm : Nat) (pa wa ra : Option Addr) (pn pc wn wc rn rc : Nat) : List Value := [src, th, .map (some sm), .slice pa pn pc, .slice wa wn wc, .slice ra rn rc]
theorem ag90 : Ag Tryz.prog 90 34 := fun w => ⟨by kernel_rfl, by kernel_rfl⟩
theorem sz90 : Sz Tryz.prog 90 34 := fun w => by kernel_rfl
theorem idxW_spec {a : Option Addr} {n c : Nat} {l : List Wnt} {x : Wnt} (hn : n ≤ 1000000000) : Spec Tryz.prog 168 [.slice a n c, .agg (wnC x).toArray] [rsl 34 a n c (l.map wnC)] [] (fun v D' M' => ∃ (k : Int), v = .int .i64 k ∧ ((0 ≤ k ↔ x ∈ l)) ∧ D' = [] ∧ M' = []) := by
 refine zI (n := 19) Tryz.func168 ?_
 intro σ D M
 refine yC (a := a) (len := n) (cap := c) (rows := l.map wnC) qM (fun hll hlc => ?_)
 rw [List.length_map] at hll
 have hx2 := x.2.1.2
 have hx3 := wnC_len x
 refine z6 (z8 (yt rfl rfl rfl (fun b3 => ?_)))
 refine z9 rfl rfl (z7 (yf (A := cl b3 90 (wnC x)) qP ?_))
 refine z4 (z6 (z6 (z8 (z5 rfl rfl (y1 rfl xk rfl (z5 rfl rfl (z7 (z4 (zu (zY (fun K' D' M' μ => ∃ (i : Nat), (i ≤ n ∧ x ∉ l.take i) ∧ K' = [(8, .int .i64 (i : Int))] ∧ D' = [] ∧ M' = [] ∧ μ = n - i) (.cons (t := 0) rfl <| .cons (t := 3) rfl <| .cons (t := 7) rfl <| za _) (⟨0, ⟨Nat.zero_le _, by simp⟩, rfl, rfl, rfl, rfl⟩) (.cons (t := 8) rfl <| za _) qD qS ?_))))))))))
 rintro K1 D1 M1 m1 ⟨i, ⟨hi, hno⟩, rfl, rfl, rfl, rfl⟩
 refine zE qA qA qA ?_
 refine z6 (z8 (zQ rfl rfl rfl (z7 (z4 (z6 (zo rfl (fun h9 => ?_) (fun h9 => ?_)))))))
 ·try simp only [dq] at h9
  refine zm (z4 (z6 (zu (z6 (z8 (z5 rfl rfl (z9 rfl rfl (z7 (z4 (z6 ?_))))))))))
  have hgi : l[i]? = some (gd l i) := zJ jO
  obtain ⟨y, hy_⟩ : ∃ z, z = gd l i := ⟨_, rfl⟩
  rw [← hy_] at hgi
  clear hy_
  have hgr : (l.map wnC)[i]? = some (wnC y) := zS hgi
  have hy3 := wnC_len y
  have hy2 := y.2.1.2
  refine T.rslAddr (a := a) (len := n) (cap := c) (rows := l.map wnC) qM (fun e => by have := congrArg List.length e; rw [List.length_map] at this; simp only [List.length_nil] at this; omega) (fun bo oo ha => ?_)
  subst ha
  refine yB qk qk (zp rfl ag90 rfl qN ?_)
  refine z5 rfl rfl (z5 rfl rfl (L.idxR (i := i) rfl xk sz90 rfl rfl qM jR qI qG ?_))
  refine zp rfl ag90 rfl (x9 qM hy3) ?_
  refine L.eqlSt (b := decide (x.1 = y.1) && (decide (x.2.1.1 = y.2.1.1) && (decide (x.2.2 = y.2.2) && true))) qk rfl Tryz.underlying90 qk (A := (wnC x).toArray) (B := (wnC y).toArray) rfl rfl (.cons (FEq.int (dp := 9998) (o := 0) qk yU sc3 rfl rfl rfl) (.cons (FEq.arr (dp := 9997) (pre := [.int .i64 x.1]) (pre' := [.int .i64 y.1]) qk xj zD yE sc5 rfl rfl rfl hx2 hy2) (.cons (FEq.int (dp := 9998) (o := 33) qk yU sc3 rfl (wn_last x) (wn_last y)) .nil))) ?_
  refine yx (z4 (zo rfl (fun h16 => ?_) (fun h16 => ?_)))
  ·try simp only [dq] at h16
   have hxy : x = y := wn_ext h16.1 h16.2.1 h16.2.2.1
   exact z6 (z8 (z5 rfl rfl (z9 rfl rfl (z7 (z4 (zj (y2 (zx (zx (y2 (zx (zA rfl rfl ⟨_, rfl, ⟨fun _ => hxy ▸ List.mem_of_getElem? hgi, fun _ => by omega⟩, rfl, rfl⟩ qD qF))))))))))))
  ·try simp only [dq] at h16
   have hxy : ¬ x = y := fun q => by subst q; rw [decide_eq_true rfl, decide_eq_true rfl, decide_eq_true rfl] at h16; cases h16
   refine zm (zK (z4 (z8 (zH rfl rfl rfl jO ?_))))
   exact z5 rfl rfl (z7 (z4 (zR ⟨i + 1, ⟨by omega, wn_snoc hgi hno hxy⟩, rfl, rfl, rfl, rfl⟩ qI (.cons (t := 8) rfl <| za _) (.cons (t := 0) rfl <| .cons (t := 3) rfl <| .cons (t := 7) rfl <| za _) qD qD qF)))
 ·try simp only [dq] at h9
  obtain rfl : n = i := by omega
  rw [List.take_of_length_le jO] at hno
  exact zN (zr (zr (zO (z4 (z6 (z8 (z9 rfl rfl (z7 (z4 (zj (zA rfl rfl ⟨_, rfl, ⟨fun q => by omega, fun q => absurd q hno⟩, rfl, rfl⟩ qD qF)))))))))))
theorem contW_spec {a : Option Addr} {n c : Nat} {l : List Wnt} {x : Wnt} (hn : n ≤ 1000000000) : Spec Tryz.prog 141 [.slice a n c, .agg (wnC x).toArray] [rsl 34 a n c (l.map wnC)] [] (fun v D' M' => v = .bool (decide (x ∈ l)) ∧ D' = [] ∧ M' = []) := by
 refine zI (n := 9) Tryz.func141 ?_
 intro σ D M
 have hx2 := x.2.1.2
 have hx3 := wnC_len x
 refine z6 (z8 (yt rfl rfl rfl (fun b3 => ?_)))
 refine z9 rfl rfl (z7 (z4 (z6 (z8 (z5 rfl rfl (zp rfl ag90 rfl qN ?_))))))
 refine zC rfl (ev2 rfl rfl) qD qS (idxW_spec (l := l) (x := x) hn) ?_
 rintro _ _ _ ⟨k, rfl, hk, rfl, rfl⟩
 refine zy qA qA ?_
 exact yS rfl rfl rfl (z9 rfl rfl (z7 (z4 (zj (zA rfl rfl ⟨congrArg Value.bool (decide_eq_decide.2 hk), rfl, rfl⟩ qD qF)))))
end Cv
set_option maxRecDepth 10000
namespace Cv
open Go Go.Proofs
theorem el90 : El Tryz.prog 90 34 48 := ⟨_, _, rfl, rfl, by kernel_rfl, by kernel_rfl, by kernel_rfl⟩
theorem fo151_0 : Fo Tryz.prog 151 0 0 := fun a w => by kernel_rfl
theorem fo90_1 : Fo Tryz.prog 90 1 1 := fun a w => by kernel_rfl
theorem sc94 : Sc Tryz.prog 94 := fun w => ⟨by kernel_rfl, by kernel_rfl⟩
theorem fo90_0 : Fo Tryz.prog 90 0 0 := fun a w => by kernel_rfl
theorem fo151_3 : Fo Tryz.prog 151 3 3 := fun a w => by kernel_rfl
theorem fo78_1 : Fo Tryz.prog 78 1 1 := fun a w => by kernel_rfl
theorem sc76 : Sc Tryz.prog 76 := fun w => ⟨by kernel_rfl, by kernel_rfl⟩
theorem zv90 : ∀ w, (zeroValue 90).run Tryz.prog w = .ok (Value.agg #[Value.int .i64 0, Value.int .u8 0, Value.int .u8 0, Value.int .u8 0, Value.int .u8 0, Value.int .u8 0, Value.int .u8 0, Value.int .u8 0, Value.int .u8 0, Value.int .u8 0, Value.int .u8 0, Value.int .u8 0, Value.int .u8 0, Value.int .u8 0, Value.int .u8 0, Value.int .u8 0, Value.int .u8 0, Value.int .u8 0, Value.int .u8 0, Value.int .u8 0, Value.int .u8 0, Value.int .u8 0, Value.int .u8 0, Value.int .u8 0, Value.int .u8 0, Value.int .u8 0, Value.int .u8 0, Value.int .u8 0, Value.int .u8 0, Value.int .u8 0, Value.int .u8 0, Value.int .u8 0, Value.int .u8 0, Value.int .i64 0]) w := fun w => by kernel_rfl
theorem bs76 : Bs Tryz.prog 76 90 34 (Value.int .i64 0 :: Value.int .u8 0 :: Value.int .u8 0 :: Value.int .u8 0 :: Value.int .u8 0 :: Value.int .u8 0 :: Value.int .u8 0 :: Value.int .u8 0 :: Value.int .u8 0 :: Value.int .u8 0 :: Value.int .u8 0 :: Value.int .u8 0 :: Value.int .u8 0 :: Value.int .u8 0 :: Value.int .u8 0 :: Value.int .u8 0 :: Value.int .u8 0 :: Value.int .u8 0 :: Value.int .u8 0 :: Value.int .u8 0 :: Value.int .u8 0 :: Value.int .u8 0 :: Value.int .u8 0 :: Value.int .u8 0 :: Value.int .u8 0 :: Value.int .u8 0 :: Value.int .u8 0 :: Value.int .u8 0 :: Value.int .u8 0 :: Value.int .u8 0 :: Value.int .u8 0 :: Value.int .u8 0 :: Value.int .u8 0 :: Value.int .i64 0 :: []) := bs_of xk (fun w => by kernel_rfl) zv90 rfl rfl jD
theorem need_spec {a pa wa ra : Option Addr} {n c bw sm pn pc wn wc rn rc : Nat} {th : Value} {os : List Ob} {ws : List Wnt} {x : Wnt} (hn : n ≤ 1000000) (hs : Shf os) (hw : ws.length = wn) (hwn : wn ≤ 1000000) : Spec Tryz.prog 107 [.pointer (some ⟨bw, 0, none⟩), .agg (wnC x).toArray] [rsl 34 a n c (os.map obC)] [cl bw 151 (wkC (.iface 26 (.agg #[.slice a n c])) th sm pa wa ra pn pc wn wc rn rc), own 34 90 wa wn wc ((ws).map wnC)] (fun v D' M' => ∃ (wa2 : Option Addr) (wn2 wc2 : Nat), v = .tuple #[.agg (obC (getO os x.2.1)).toArray, .bool (ndB os x)] ∧ ((ndW os ws x).length = wn2) ∧ D' = [] ∧ M' = [cl bw 151 (wkC (.iface 26 (.agg #[.slice a n c])) th sm pa wa2 ra pn pc wn2 wc2 rn rc), own 34 90 wa2 wn2 wc2 ((ndW os ws x).map wnC)]) := by
 refine zI (n := 49) Tryz.func107 ?_
 intro σ D M
 have hx2 := x.2.1.2
 have hx3 := wnC_len x
 obtain ⟨o, ho⟩ : ∃ o, o = getO os x.2.1 := ⟨_, rfl⟩
 obtain ⟨e, he⟩ : ∃ e, e = getE os x.2.1 := ⟨_, rfl⟩
 have hos := hs.get x.2.1
 rw [← ho] at hos ⊢
 have ho33 := obC_len o
 have ho32 := o.2.1.2
 refine z6 (z8 (yt rfl rfl rfl (fun b3 => ?_)))
 refine zL rfl ze45 (fun b4 => ?_)
 refine z9 rfl rfl (z7 (yf (A := cl b3 90 (wnC x)) qP ?_))
 refine z4 (z6 (yj (fun K' D' M' => ∃ (b6 : Nat), K' = [(6, .pointer (some ⟨b6, 0, none⟩)), (7, .int .i64 e)] ∧ D' = [cl b6 45 (obC o)] ∧ M' = [cl bw 151 (wkC (.iface 26 (.agg #[.slice a n c])) th sm pa wa ra pn pc wn wc rn rc)]) (M0 := [cl bw 151 (wkC (.iface 26 (.agg #[.slice a n c])) th sm pa wa ra pn pc wn wc rn rc)]) (.cons (t := 0) rfl <| .cons (t := 3) rfl <| .cons (t := 4) rfl <| za _) qS ?_ ?_))
 ·skip
  refine yy (clsL [1, 1, 1, 2, 1, 1, 2, 1, 1, 1, 2, 2, 1]) qk ?_
  refine ze 0 rfl rfl (z5 rfl rfl (zd (xg (i := 1) rfl rfl qk qk qk rfl qD rfl ?_)))
  refine ze 2 rfl rfl (zg rfl fo151_0 rfl ?_)
  refine zd (ze 4 rfl rfl (zg rfl fo90_1 rfl ?_))
  refine zd (ze 5 rfl rfl (zp rfl zD rfl qN ?_))
  refine zd (yV (is := [3, 10]) qk jD (yp rfl ?_ <| yp rfl ?_ <| yW) )
  ·skip
   refine zi rfl sc94 rfl qC ?_
   refine zq rfl qD ?_
   refine yV (is := [6, 10]) qk jD (yp rfl ?_ <| yp rfl ?_ <| yW) 
   ·skip
    refine L.inv rfl rfl mthG (ev1 rfl) qD qS (get_spec (os := os) (x := x.2.1) hn) ?_
    rintro _ _ _ ⟨rfl, rfl, rfl⟩
    refine zy qA qA ?_
    rw [← ho, ← he]
    refine zq rfl qD ?_
    refine ze 7 rfl rfl (z5 rfl rfl (zd (ze 8 rfl rfl (zV rfl rfl rfl (zd (ze 9 rfl rfl (zV rfl rfl rfl (zd (zt 10 rfl (zL rfl ze45 (fun b6 => ?_)))))))))))
    refine zq rfl qD ?_
    refine zt 11 rfl (zz ag45 rfl rfl qL qO qU qW ?_)
    refine zq rfl qD ?_
    refine ze 12 rfl rfl (z9 rfl rfl (zd (y3 qk ?_)))
    refine yf (A := cl b6 45 (obC o)) qP ?_
    exact z4 (zF ⟨_, rfl, rfl, rfl⟩ (.cons (t := 6) rfl <| .cons (t := 7) rfl <| za _) (.cons (t := 0) rfl <| .cons (t := 3) rfl <| .cons (t := 4) rfl <| za _) qD qD qF)
   ·skip
    refine zL rfl ze45 (fun b6 => ?_)
    refine zq rfl qD ?_
    refine zt 6 rfl (L.inv rfl rfl mthG (ev1 rfl) qD qS (get_spec (os := os) (x := x.2.1) hn) ?_)
    rintro _ _ _ ⟨rfl, rfl, rfl⟩
    refine zy qA qA ?_
    rw [← ho, ← he]
    refine zq rfl qD ?_
    refine ze 7 rfl rfl (z5 rfl rfl (zd (ze 8 rfl rfl (zV rfl rfl rfl (zd (ze 9 rfl rfl (zV rfl rfl rfl (zd (zt 11 rfl (zz ag45 rfl rfl qL qO qU qW ?_))))))))))
    refine zq rfl qD ?_
    refine ze 12 rfl rfl (z9 rfl rfl (zd (y3 qk ?_)))
    refine yf (A := cl b6 45 (obC o)) qP ?_
    exact z4 (zF ⟨_, rfl, rfl, rfl⟩ (.cons (t := 6) rfl <| .cons (t := 7) rfl <| za _) (.cons (t := 0) rfl <| .cons (t := 3) rfl <| .cons (t := 4) rfl <| za _) qD qD qF)
  ·skip
   refine zL rfl ze45 (fun b6 => ?_)
   refine zq rfl qD ?_
   refine zt 3 rfl (zi rfl sc94 rfl qC ?_)
   refine zq rfl qD ?_
   refine zt 6 rfl (L.inv rfl rfl mthG (ev1 rfl) qD qS (get_spec (os := os) (x := x.2.1) hn) ?_)
   rintro _ _ _ ⟨rfl, rfl, rfl⟩
   refine zy qA qA ?_
   rw [← ho, ← he]
   refine zq rfl qD ?_
   refine ze 7 rfl rfl (z5 rfl rfl (zd (ze 8 rfl rfl (zV rfl rfl rfl (zd (ze 9 rfl rfl (zV rfl rfl rfl (zd (zt 11 rfl (zz ag45 rfl rfl qL qO qU qW ?_))))))))))
   refine zq rfl qD ?_
   refine ze 12 rfl rfl (z9 rfl rfl (zd (y3 qk ?_)))
   refine yf (A := cl b6 45 (obC o)) qP ?_
   exact z4 (zF ⟨_, rfl, rfl, rfl⟩ (.cons (t := 6) rfl <| .cons (t := 7) rfl <| za _) (.cons (t := 0) rfl <| .cons (t := 3) rfl <| .cons (t := 4) rfl <| za _) qD qD qF)
 rintro _ _ _ ⟨b6, rfl, rfl, rfl⟩
 refine zE qA qA qA ?_
 refine z4 (z6 (z6 (yj (fun K' D' M' => ∃ (w : Bool), (w = true ↔ (e = 0 ∧ o.1 = x.1)) ∧ K' = [(26, .bool w)] ∧ D' = [] ∧ M' = [cl bw 151 (wkC (.iface 26 (.agg #[.slice a n c])) th sm pa wa ra pn pc wn wc rn rc), own 34 90 wa wn wc ((ws).map wnC)]) (M0 := [cl bw 151 (wkC (.iface 26 (.agg #[.slice a n c])) th sm pa wa ra pn pc wn wc rn rc), own 34 90 wa wn wc ((ws).map wnC)]) (.cons (t := 0) rfl <| .cons (t := 3) rfl <| .cons (t := 4) rfl <| .cons (t := 6) rfl <| za _) qS ?_ ?_)))
 ·skip
  refine z8 (z5 rfl rfl (yn rfl rfl rfl (z5 rfl rfl (yK (t := 20) rfl (fun h1 => ?_) (fun h1 => ?_)))))
  ·try simp only [dq] at h1
   refine zf (dj := 20) rfl rfl rfl (zg rfl fo45_0 rfl ?_)
   refine zf (dj := 20) rfl rfl rfl (zi rfl sc3 rfl qC ?_)
   refine zf (dj := 20) rfl rfl rfl (zg rfl fo90_0 rfl ?_)
   refine zf (dj := 20) rfl rfl rfl (zi rfl sc3 rfl qC ?_)
   exact zf (dj := 20) rfl rfl rfl (yn rfl rfl rfl (y6 rfl rfl rfl (z7 (z4 (zF ⟨_, (by simp_all), rfl, rfl, rfl⟩ (.cons (t := 26) rfl <| za _) (.cons (t := 0) rfl <| .cons (t := 3) rfl <| .cons (t := 4) rfl <| .cons (t := 6) rfl <| za _) qD qD qF)))))
  ·try simp only [dq] at h1
   exact zh (dj := 20) (c := false) rfl rfl rfl rfl rfl jD (zh (dj := 20) (c := false) rfl rfl rfl rfl rfl jD (zh (dj := 20) (c := false) rfl rfl rfl rfl rfl jD (zh (dj := 20) (c := false) rfl rfl rfl rfl rfl jD (zh (dj := 20) (c := false) rfl rfl rfl rfl rfl jD (y9 rfl rfl rfl (z7 (z4 (zF ⟨_, (by simp_all), rfl, rfl, rfl⟩ (.cons (t := 26) rfl <| za _) (.cons (t := 0) rfl <| .cons (t := 3) rfl <| .cons (t := 4) rfl <| .cons (t := 6) rfl <| za _) qD qD qF))))))))
 rintro _ _ _ ⟨w, hw2, rfl, rfl, rfl⟩
 refine zE qA qA qA ?_
 refine z4 (zo rfl (fun h26 => ?_) (fun h26 => ?_))
 ·try simp only [dq] at h26
  have hB : ndB os x = true := decide_eq_true (by rw [← he, ← ho]; exact hw2.1 h26)
  refine z6 (z8 (zp rfl ag45 rfl qN ?_))
  refine zz ag45 rfl rfl qL qO qU qW ?_
  refine z9 rfl rfl (z7 (z4 (zj (zx ?_))))
  rw [hB, ndW_t hB]
  exact yD rfl ag45 rfl qN rfl ⟨_, _, _, rfl, hw, rfl, rfl⟩ qD qF
 ·try simp only [dq] at h26
  have hB : ndB os x = false := decide_eq_false (by rw [← he, ← ho]; exact fun q => by have := hw2.2 q; rw [h26] at this; cases this)
  refine zm (z4 (z6 (z6 (yy (clsL [1, 1, 1, 1, 2, 1, 2, 1]) qk ?_))))
  refine ze 0 rfl rfl (z5 rfl rfl (zd (xg (i := 1) rfl rfl qk qk qk rfl qD rfl ?_)))
  refine ze 2 rfl rfl (zg rfl fo151_3 rfl ?_)
  refine zd (ze 3 rfl rfl (zg rfl fo78_1 rfl ?_))
  refine zd (ze 5 rfl rfl (zp rfl ag90 rfl qN ?_))
  refine zd (zt 4 rfl (zi rfl sc76 rfl qC ?_))
  refine zq rfl qD ?_
  refine zt 6 rfl (L.callB1 (A := own 34 90 wa wn wc ((ws).map wnC)) rfl (ev2 rfl rfl) qS qP (fun z H => rsl_of_own H) (contW_spec (l := ws) (x := x) jO) ?_)
  rintro _ _ _ ⟨rfl, rfl, rfl⟩
  refine zy AppL.nil qA ?_
  refine zq rfl qD ?_
  refine ze 7 rfl rfl (yZ rfl rfl (zd (y3 qk ?_)))
  refine z4 (zo rfl (fun h35 => ?_) (fun h35 => ?_))
  ·try simp only [dq] at h35
   have hni : x ∉ ws := by simpa using h35
   refine yy (clsL [1, 1, 1, 1, 1, 2, 1, 2, 2, 1, 1, 1, 2]) qk ?_
   refine ze 0 rfl rfl (z5 rfl rfl (zd (ze 1 rfl rfl (z5 rfl rfl (zd (xg (i := 2) rfl rfl qk qk qk rfl qD rfl ?_))))))
   refine ze 3 rfl rfl (zg rfl fo151_3 rfl ?_)
   refine zd (ze 4 rfl rfl (zg rfl fo78_1 rfl ?_))
   refine zd (ze 6 rfl rfl (zp rfl ag90 rfl qN ?_))
   refine zd (yV (is := [5, 7]) qk jD (yp rfl ?_ <| yp rfl ?_ <| yW) )
   ·skip
    refine zi rfl sc76 rfl qC ?_
    refine zq rfl qD ?_
    refine zt 7 rfl (zZ rfl bs76 jD (ym rfl rfl (by first | with_reducible assumption | (simp; done) | (simp only [List.length_map]; with_reducible assumption) | (simp [*]; done) | rfl) (Nat.le_of_ble_eq_true rfl) qR <| zB (out := []) rfl) (fun b43 => ?_))
    refine zq rfl qD ?_
    refine zt 8 rfl (yz rfl xk el90 rfl rfl qP qM (by rw [List.append_nil]; exact hx3) (fun u hu => by rw [List.append_nil] at hu; exact one_wn u hu) qI qI (fun a44 c44 => ?_))
    refine zq rfl qD ?_
    refine xg (i := 9) rfl rfl qk qk qk rfl qD rfl ?_
    refine ze 10 rfl rfl (zg rfl fo151_3 rfl ?_)
    refine zd (ze 11 rfl rfl (zg rfl fo78_1 rfl ?_))
    refine zd (zt 12 rfl (y8 sc76 rfl rfl rfl qU qE ?_))
    refine zq rfl qD ?_
    refine y3 qk ?_
    refine z4 (z6 (z8 (zp rfl ag45 rfl qN ?_)))
    refine zz ag45 rfl rfl qL qO qU qW ?_
    refine z9 rfl rfl (z7 (z4 (zj (zU qP (show own 34 90 a44 (wn + 1) c44 (ws.map wnC ++ [.int .i64 x.1 :: (x.2.1.1.map Y ++ [.int .i64 x.2.2] ++ [])]) = own 34 90 a44 (wn + 1) c44 ((ndW os ws x).map wnC) from by rw [ndW_new hB hni, List.map_append, List.append_nil]; rfl) ?_))))
    rw [hB]
    exact yD rfl ag45 rfl qN rfl ⟨a44, wn + 1, c44, rfl, (by rw [ndW_new hB hni, List.length_append, hw, List.length_singleton]), rfl, rfl⟩ qD qF
   ·skip
    refine zZ rfl bs76 jD (ym rfl rfl (by first | with_reducible assumption | (simp; done) | (simp only [List.length_map]; with_reducible assumption) | (simp [*]; done) | rfl) (Nat.le_of_ble_eq_true rfl) qR <| zB (out := []) rfl) (fun b43 => ?_)
    refine zq rfl qD ?_
    refine zt 5 rfl (zi rfl sc76 rfl qC ?_)
    refine zq rfl qD ?_
    refine zt 8 rfl (yz rfl xk el90 rfl rfl qP qM (by rw [List.append_nil]; exact hx3) (fun u hu => by rw [List.append_nil] at hu; exact one_wn u hu) qI qI (fun a44 c44 => ?_))
    refine zq rfl qD ?_
    refine xg (i := 9) rfl rfl qk qk qk rfl qD rfl ?_
    refine ze 10 rfl rfl (zg rfl fo151_3 rfl ?_)
    refine zd (ze 11 rfl rfl (zg rfl fo78_1 rfl ?_))
    refine zd (zt 12 rfl (y8 sc76 rfl rfl rfl qU qE ?_))
    refine zq rfl qD ?_
    refine y3 qk ?_
    refine z4 (z6 (z8 (zp rfl ag45 rfl qN ?_)))
    refine zz ag45 rfl rfl qL qO qU qW ?_
    refine z9 rfl rfl (z7 (z4 (zj (zU qP (show own 34 90 a44 (wn + 1) c44 (ws.map wnC ++ [.int .i64 x.1 :: (x.2.1.1.map Y ++ [.int .i64 x.2.2] ++ [])]) = own 34 90 a44 (wn + 1) c44 ((ndW os ws x).map wnC) from by rw [ndW_new hB hni, List.map_append, List.append_nil]; rfl) ?_))))
    rw [hB]
    exact yD rfl ag45 rfl qN rfl ⟨a44, wn + 1, c44, rfl, (by rw [ndW_new hB hni, List.length_append, hw, List.length_singleton]), rfl, rfl⟩ qD qF
  ·try simp only [dq] at h35
   have hin : x ∈ ws := by simpa using h35
   refine zm (z4 (z6 (z8 (zp rfl ag45 rfl qN ?_))))
   refine zz ag45 rfl rfl qL qO qU qW ?_
   refine z9 rfl rfl (z7 (z4 (zj ?_)))
   rw [hB, ndW_in hin]
   exact yD rfl ag45 rfl qN rfl ⟨_, _, _, rfl, hw, rfl, rfl⟩ qD qF
end Cv
set_option maxRecDepth 10000
namespace Cv
open Go Go.Proofs
/-! ### the parts of a tree -/
@[reducible] def stp (g : Pt → List Wnt → List Wnt × Bool) (s : List Wnt × Bool) (q : Pt) : List Wnt × Bool := ((g q s.1).1, (g q s.1).2 && s.2)
def ptF (os : List Ob) : Nat → Int → Pt → List Wnt → List Wnt × Bool
  | 0, _, _, ws => (ws, true)
  | d + 1, lv, p, ws =>
    if lv = 0 then (ndW os ws (1, p.1, p.2), ndB os (1, p.1, p.2))
    else if ndB os (2, p.1, 292) = false then (ndW os ws (2, p.1, 292), false)
    else if (nodR (getO os p.1).2.2).2.2 ≠ 0 then (ws, true)
    else (nodR (getO os p.1).2.2).2.1.foldl (stp (ptF os d ((((nodR (getO os p.1).2.2).1 : Nat) : Int) - 1))) (ws, true)
def PtD (os : List Ob) : Nat → Int → Pt → Prop
  | 0, _, _ => False
  | d + 1, lv, p => lv ≠ 0 → ndB os (2, p.1, 292) = true → (nodR (getO os p.1).2.2).2.2 = 0 → ∀ q ∈ (nodR (getO os p.1).2.2).2.1, PtD os d ((((nodR (getO os p.1).2.2).1 : Nat) : Int) - 1) q
theorem pt_0 {os : List Ob} {d : Nat} {p : Pt} {ws : List Wnt} : ptF os (d + 1) 0 p ws = (ndW os ws (1, p.1, p.2), ndB os (1, p.1, p.2)) := by rw [ptF, if_pos rfl]
theorem pt_m {os : List Ob} {d : Nat} {lv : Int} {p : Pt} {ws : List Wnt} (h : lv ≠ 0) (k : ndB os (2, p.1, 292) = false) : ptF os (d + 1) lv p ws = (ndW os ws (2, p.1, 292), false) := by rw [ptF, if_neg h, if_pos k]
theorem pt_e {os : List Ob} {d : Nat} {lv : Int} {p : Pt} {ws : List Wnt} {o : Ob} (h : lv ≠ 0) (k : ndB os (2, p.1, 292) = true) (ho : o = getO os p.1) (e : (nodR o.2.2).2.2 ≠ 0) : ptF os (d + 1) lv p ws = (ws, true) := by subst ho; rw [ptF, if_neg h, if_neg (by rw [k]; decide), if_pos e]
theorem pt_n {os : List Ob} {d : Nat} {lv : Int} {p : Pt} {ws : List Wnt} {o : Ob} {z : Nat × List Pt × Int} (h : lv ≠ 0) (k : ndB os (2, p.1, 292) = true) (ho : o = getO os p.1) (hz : z = nodR o.2.2) (e : z.2.2 = 0) : ptF os (d + 1) lv p ws = z.2.1.foldl (stp (ptF os d (((z.1 : Nat) : Int) - 1))) (ws, true) := by subst ho; subst hz; rw [ptF, if_neg h, if_neg (by rw [k]; decide), if_neg (fun q => q e)]
theorem PtD.down {os : List Ob} {d : Nat} {lv : Int} {p q : Pt} {o : Ob} {z : Nat × List Pt × Int} (h : PtD os (d + 1) lv p) (h0 : lv ≠ 0) (k : ndB os (2, p.1, 292) = true) (ho : o = getO os p.1) (hz : z = nodR o.2.2) (e : z.2.2 = 0) (hq : q ∈ z.2.1) : PtD os d (((z.1 : Nat) : Int) - 1) q := by subst ho; subst hz; exact h h0 k e q hq
theorem stp_len {g : Pt → List Wnt → List Wnt × Bool} {X : Nat} (h : ∀ q ws, (g q ws).1.length ≤ ws.length + X) : ∀ (l : List Pt) (s : List Wnt × Bool), (l.foldl (stp g) s).1.length ≤ s.1.length + l.length * X
  | [], s => by simp
  | q :: l, s => by
    have a := stp_len h l (stp g s q)
    have b : (stp g s q).1.length ≤ s.1.length + X := h q s.1
    rw [List.foldl_cons, List.length_cons, Nat.add_mul]; omega
theorem ptF_len (os : List Ob) : ∀ (d : Nat) (lv : Int) (p : Pt) (ws : List Wnt), (ptF os d lv p ws).1.length ≤ ws.length + 9 ^ d
  | 0, lv, p, ws => by rw [ptF]; exact Nat.le_add_right _ _
  | d + 1, lv, p, ws => by
    have h1 : 1 ≤ 9 ^ d := Nat.one_le_pow _ _ (by decide)
    rw [ptF, Nat.pow_succ]
    split
    · have := ndW_len os ws (1, p.1, p.2); dsimp only; omega
    · split
      · have := ndW_len os ws (2, p.1, 292); dsimp only; omega
      · split
        · dsimp only; omega
        · have := stp_len (ptF_len os d ((((nodR (getO os p.1).2.2).1 : Nat) : Int) - 1)) (nodR (getO os p.1).2.2).2.1 (ws, true)
          have h8 := nodR_len (getO os p.1).2.2
          have h9 : (nodR (getO os p.1).2.2).2.1.length * 9 ^ d ≤ 8 * 9 ^ d := Nat.mul_le_mul_right _ h8
          dsimp only at this; omega
theorem stp_snoc {g : Pt → List Wnt → List Wnt × Bool} {l : List Pt} {i : Nat} {q : Pt} {s : List Wnt × Bool} (h : l[i]? = some q) : (l.take (i + 1)).foldl (stp g) s = stp g ((l.take i).foldl (stp g) s) q := by
  rw [List.take_add_one, h, List.foldl_append]; rfl
theorem stp_room {os : List Ob} {d i wn : Nat} {lv : Int} {l : List Pt} {ws : List Wnt} (h : l.length ≤ 8) (hw : ws.length = wn) (hb : wn + 9 ^ (d + 1) ≤ 1000000) (hi : i < l.length) : ((l.take i).foldl (stp (ptF os d lv)) (ws, true)).1.length + 9 ^ d ≤ 1000000 := by
  have a := stp_len (ptF_len os d lv) (l.take i) (ws, true)
  have b : (l.take i).length = i := by rw [List.length_take]; omega
  rw [b] at a
  have c : i * 9 ^ d ≤ 7 * 9 ^ d := Nat.mul_le_mul_right _ (by omega)
  rw [Nat.pow_succ] at hb
  dsimp only at a; omega
theorem pt_room {d wn : Nat} (hb : wn + 9 ^ (d + 1) ≤ 1000000) : wn ≤ 1000000 := Nat.le_trans (Nat.le_add_right _ _) hb
theorem bu90 : Bu Tryz.prog 90 (Value.int .i64 0 :: Value.int .u8 0 :: Value.int .u8 0 :: Value.int .u8 0 :: Value.int .u8 0 :: Value.int .u8 0 :: Value.int .u8 0 :: Value.int .u8 0 :: Value.int .u8 0 :: Value.int .u8 0 :: Value.int .u8 0 :: Value.int .u8 0 :: Value.int .u8 0 :: Value.int .u8 0 :: Value.int .u8 0 :: Value.int .u8 0 :: Value.int .u8 0 :: Value.int .u8 0 :: Value.int .u8 0 :: Value.int .u8 0 :: Value.int .u8 0 :: Value.int .u8 0 :: Value.int .u8 0 :: Value.int .u8 0 :: Value.int .u8 0 :: Value.int .u8 0 :: Value.int .u8 0 :: Value.int .u8 0 :: Value.int .u8 0 :: Value.int .u8 0 :: Value.int .u8 0 :: Value.int .u8 0 :: Value.int .u8 0 :: Value.int .i64 0 :: []) (fun (i : Nat) => ([(0, 1), (1, 32), (33, 1)] : List (Nat × Nat))[i]?) := bu_of Tryz.underlying90 zv90 rfl (fun w => by kernel_rfl)
theorem part_step {a pa wa ra : Option Addr} {n c bw sm pn pc wn wc rn rc d : Nat} {th : Value} {os : List Ob} {ws : List Wnt} {lv : Int} {p : Pt} (hn : n ≤ 1000000) (hs : Shf os) (hl : -1 ≤ lv ∧ lv ≤ 8) (hd : PtD os (d + 1) lv p) (hw : ws.length = wn) (hwn : wn + 9 ^ (d + 1) ≤ 1000000) (IH : ∀ (wa : Option Addr) (wn wc : Nat) (ws : List Wnt) (j : Nat) (q : Pt), j ≤ 7 → PtD os d (j : Int) q → ws.length = wn → wn + 9 ^ d ≤ 1000000 → Spec Tryz.prog 108 [.pointer (some ⟨bw, 0, none⟩), .agg (ptC q).toArray, .int .i64 (j : Int)] [rsl 34 a n c (os.map obC)] [cl bw 151 (wkC (.iface 26 (.agg #[.slice a n c])) th sm pa wa ra pn pc wn wc rn rc), own 34 90 wa wn wc ((ws).map wnC)] (fun v D' M' => ∃ (wa2 : Option Addr) (wn2 wc2 : Nat), v = .bool (ptF os d (j : Int) q ws).2 ∧ ((ptF os d (j : Int) q ws).1.length = wn2) ∧ D' = [] ∧ M' = [cl bw 151 (wkC (.iface 26 (.agg #[.slice a n c])) th sm pa wa2 ra pn pc wn2 wc2 rn rc), own 34 90 wa2 wn2 wc2 (((ptF os d (j : Int) q ws).1).map wnC)])) : Spec Tryz.prog 108 [.pointer (some ⟨bw, 0, none⟩), .agg (ptC p).toArray, .int .i64 lv] [rsl 34 a n c (os.map obC)] [cl bw 151 (wkC (.iface 26 (.agg #[.slice a n c])) th sm pa wa ra pn pc wn wc rn rc), own 34 90 wa wn wc ((ws).map wnC)] (fun v D' M' => ∃ (wa2 : Option Addr) (wn2 wc2 : Nat), v = .bool (ptF os (d + 1) lv p ws).2 ∧ ((ptF os (d + 1) lv p ws).1.length = wn2) ∧ D' = [] ∧ M' = [cl bw 151 (wkC (.iface 26 (.agg #[.slice a n c])) th sm pa wa2 ra pn pc wn2 wc2 rn rc), own 34 90 wa2 wn2 wc2 (((ptF os (d + 1) lv p ws).1).map wnC)]) := by
 refine zI (n := 65) Tryz.func108 ?_
 intro σ D M
 have hp32 := p.1.2
 have hp33 := ptC_len p
 have hos := hs.get p.1
 have hwm := pt_room hwn
 refine z6 (z8 (yt rfl rfl rfl (fun b4 => ?_)))
 refine z9 rfl rfl (z7 (yf (A := cl b4 51 (ptC p)) qP ?_))
 refine z4 (z6 (z6 (z8 (z5 rfl rfl (yn rfl rfl rfl (z7 (z4 (zo rfl (fun h17 => ?_) (fun h17 => ?_)))))))))
 ·try simp only [dq] at h17
  refine z6 (z8 (z5 rfl rfl (zg rfl fo51_0 rfl ?_)))
  refine zp rfl zD rfl qN ?_
  refine zg rfl fo51_1 rfl ?_
  refine zi rfl sc3 rfl qC ?_
  refine ye rfl bu90 (zw rfl rfl rfl <| ym rfl rfl (by first | with_reducible assumption | (simp; done) | (simp only [List.length_map]; with_reducible assumption) | (simp [*]; done) | rfl) (Nat.le_of_ble_eq_true rfl) qR <| zw rfl rfl rfl <| zB (out := []) rfl) ?_
  refine zC rfl (ev2 rfl rfl) qD qS (need_spec (os := os) (ws := ws) (x := (1, p.1, p.2)) hn hs hw hwm) ?_
  rintro _ _ _ ⟨wa2, wn2, wc2, rfl, hwl, rfl, rfl⟩
  refine zy qA qA ?_
  have ho33 := obC_len (getO os p.1)
  refine z5 rfl rfl (zV rfl rfl rfl (zV rfl rfl rfl (zL rfl ze45 (fun b7 => ?_))))
  refine zz ag45 rfl rfl qL qO qU qW ?_
  refine z9 rfl rfl (z7 (z4 (z6 (z8 (z5 rfl rfl (z9 rfl rfl (z7 (z4 (zj (zx ?_))))))))))
  obtain rfl : lv = 0 := h17
  rw [pt_0]
  exact zA rfl rfl ⟨_, _, _, rfl, hwl, rfl, rfl⟩ qD qF
 ·try simp only [dq] at h17
  refine zm (z4 (z6 (z8 (z5 rfl rfl (zg rfl fo51_0 rfl ?_)))))
  refine zp rfl zD rfl qN ?_
  refine ye rfl bu90 (zw rfl rfl rfl <| ym rfl rfl (by first | with_reducible assumption | (simp; done) | (simp only [List.length_map]; with_reducible assumption) | (simp [*]; done) | rfl) (Nat.le_of_ble_eq_true rfl) qR <| zw rfl rfl rfl <| zB (out := []) rfl) ?_
  refine zC rfl (ev2 rfl rfl) qD qS (need_spec (os := os) (ws := ws) (x := (2, p.1, 292)) hn hs hw hwm) ?_
  rintro _ _ _ ⟨wa2, wn2, wc2, rfl, hwl, rfl, rfl⟩
  refine zy qA qA ?_
  obtain ⟨o, ho⟩ : ∃ o, o = getO os p.1 := ⟨_, rfl⟩
  rw [← ho] at hos ⊢
  have ho33 := obC_len o
  have ho32 := o.2.1.2
  refine z5 rfl rfl (zV rfl rfl rfl (zV rfl rfl rfl (zL rfl ze45 (fun b9 => ?_))))
  refine zz ag45 rfl rfl qL qO qU qW ?_
  refine z9 rfl rfl (z7 (yf (A := cl b9 45 (obC o)) qP ?_))
  refine z4 (z6 (z6 (z8 (z5 rfl rfl (yZ rfl rfl (z7 (z4 (zo rfl (fun h38 => ?_) (fun h38 => ?_)))))))))
  ·try simp only [dq] at h38
   have hB : ndB os (2, p.1, 292) = false := by simpa using h38
   refine z6 (z8 (z9 rfl rfl (z7 (z4 (zj (zx ?_))))))
   rw [pt_m h17 hB]
   exact zA rfl rfl ⟨_, _, _, rfl, hwl, rfl, rfl⟩ qD qF
  ·try simp only [dq] at h38
   have hB : ndB os (2, p.1, 292) = true := by simpa using h38
   rw [ndW_t hB] at hwl ⊢
   refine zm (z4 (z6 (z8 (zg rfl fo45_2 rfl ?_))))
   refine zi rfl sc9 rfl qC ?_
   refine zC rfl (ev1 rfl) qD qS (nparse_spec (s := o.2.2) jO) ?_
   rintro _ _ _ ⟨ka, kn, kc, rfl, hkn, rfl, rfl⟩
   refine zy qA qA ?_
   have hz8 := nodR_len o.2.2
   have hzi := nodR_in o.2.2
   have hzo := @nodR_ok o.2.2
   obtain ⟨z, hz⟩ : ∃ z, z = nodR o.2.2 := ⟨_, rfl⟩
   rw [← hz] at hkn hz8 hzi hzo ⊢
   refine z5 rfl rfl (zV rfl rfl rfl (zV rfl rfl rfl (zL rfl ze49 (fun b11 => ?_))))
   refine zz ag49 rfl rfl qL qO qU qW ?_
   refine z9 rfl rfl (z7 (yf (A := cl b11 49 [.int .i64 (z.1 : Int), .slice ka kn kc]) qP ?_))
   refine z4 (z6 (z6 (z8 (z5 rfl rfl (yJ rfl rfl rfl (z7 (z4 (zo rfl (fun h46 => ?_) (fun h46 => ?_)))))))))
   ·try simp only [dq] at h46
    refine z6 (z8 (z9 rfl rfl (z7 (z4 (zj (zx ?_))))))
    rw [pt_e h17 hB ho (by rw [← hz]; exact h46)]
    exact zA rfl rfl ⟨_, _, _, rfl, hwl, rfl, rfl⟩ qD qF
   ·try simp only [dq] at h46
    have hze : z.2.2 = 0 := Decidable.not_not.1 h46
    have hz1 := chkN_0 (hzo hze)
    obtain ⟨j, hj⟩ : ∃ j : Nat, (z.1 : Int) - 1 = (j : Int) := ⟨z.1 - 1, by omega⟩
    refine zm (z4 (z6 (z8 (z9 rfl rfl (z7 (z4 (z6 (z6 (z8 (zg rfl fo49_1 rfl ?_))))))))))
    refine zi rfl sc47 rfl qC ?_
    refine y1 rfl yX rfl (z5 rfl rfl (z7 (z4 (zu (zY (fun K' D' M' μ => ∃ (i : Nat) (wa4 : Option Addr) (wn4 wc4 : Nat), (i ≤ kn ∧ ((z.2.1.take i).foldl (stp (ptF os d (j : Int))) (ws, true)).1.length = wn4) ∧ K' = [(50, .int .i64 (i : Int)), (13, .bool ((z.2.1.take i).foldl (stp (ptF os d (j : Int))) (ws, true)).2)] ∧ D' = [] ∧ M' = [cl bw 151 (wkC (.iface 26 (.agg #[.slice a n c])) th sm pa wa4 ra pn pc wn4 wc4 rn rc), own 34 90 wa4 wn4 wc4 ((((z.2.1.take i).foldl (stp (ptF os d (j : Int))) (ws, true)).1).map wnC)] ∧ μ = kn - i) (.cons (t := 0) rfl <| .cons (t := 11) rfl <| .cons (t := 48) rfl <| .cons (t := 49) rfl <| za _) (⟨0, wa2, wn2, wc2, ⟨Nat.zero_le _, hwl⟩, rfl, rfl, rfl, rfl⟩) (.cons (t := 50) rfl <| .cons (t := 13) rfl <| za _) qD qS ?_)))))
    rintro K1 D1 M1 m1 ⟨i, wa4, wn4, wc4, ⟨hi, hw4⟩, rfl, rfl, rfl, rfl⟩
    refine zE qA qA qA ?_
    refine z6 (z8 (zQ rfl rfl rfl (z7 (z4 (z6 (zo rfl (fun h51 => ?_) (fun h51 => ?_)))))))
    ·try simp only [dq] at h51
     refine zm (z4 (z6 (zu (z6 ?_))))
     have hgi : z.2.1[i]? = some (gd z.2.1 i) := zJ jO
     obtain ⟨q, hq_⟩ : ∃ x, x = gd z.2.1 i := ⟨_, rfl⟩
     rw [← hq_] at hgi
     clear hq_
     have hgr : (z.2.1.map ptC)[i]? = some (ptC q) := zS hgi
     have hq32 := q.1.2
     have hq33 := ptC_len q
     refine z8 (yH (i := i) rfl yX sz51 rfl rfl qM jR qG (fun b52 o52 => ?_))
     refine zp rfl ag51 rfl (x9 qM hq33) ?_
     refine zL rfl ze51 (fun b15 => ?_)
     refine zz ag51 rfl rfl qL qO qU qW ?_
     refine z7 (yf (A := cl b15 51 (ptC q)) qP ?_)
     refine z4 (yj (fun K' D' M' => ∃ (w : Bool) (wa5 : Option Addr) (wn5 wc5 : Nat), (w = (stp (ptF os d (j : Int)) ((z.2.1.take i).foldl (stp (ptF os d (j : Int))) (ws, true)) q).2 ∧ (stp (ptF os d (j : Int)) ((z.2.1.take i).foldl (stp (ptF os d (j : Int))) (ws, true)) q).1.length = wn5) ∧ K' = [(13, .bool w)] ∧ D' = [] ∧ M' = [cl bw 151 (wkC (.iface 26 (.agg #[.slice a n c])) th sm pa wa5 ra pn pc wn5 wc5 rn rc), own 34 90 wa5 wn5 wc5 (((stp (ptF os d (j : Int)) ((z.2.1.take i).foldl (stp (ptF os d (j : Int))) (ws, true)) q).1).map wnC)]) (M0 := [cl bw 151 (wkC (.iface 26 (.agg #[.slice a n c])) th sm pa wa4 ra pn pc wn4 wc4 rn rc), own 34 90 wa4 wn4 wc4 ((((z.2.1.take i).foldl (stp (ptF os d (j : Int))) (ws, true)).1).map wnC)]) (.cons (t := 0) rfl <| .cons (t := 11) rfl <| .cons (t := 48) rfl <| .cons (t := 49) rfl <| .cons (t := 50) rfl <| za _) qS ?_ ?_)
     ·skip
      have hIH := IH wa4 wn4 wc4 ((z.2.1.take i).foldl (stp (ptF os d (j : Int))) (ws, true)).1 j q jO (by rw [← hj]; exact hd.down h17 hB ho hz hze (List.mem_of_getElem? hgi)) hw4 (by rw [← hw4]; exact stp_room hz8 hw hwn jO)
      refine z8 (z5 rfl rfl (zp rfl ag51 rfl qN ?_))
      refine zg rfl fo49_0 rfl ?_
      refine zi rfl sc3 rfl qC ?_
      refine y5 rfl rfl rfl jO ?_
      refine zv (t := 58) (u := .int .i64 (j : Int)) rfl (congrArg (Value.int .i64) hj) ?_
      refine zC rfl (ev3 rfl rfl rfl) qD qS (hIH) ?_
      rintro _ _ _ ⟨wa5, wn5, wc5, rfl, hw5, rfl, rfl⟩
      refine zy qA qA ?_
      refine z5 rfl rfl (yK (t := 60) rfl (fun h1 => ?_) (fun h1 => ?_))
      ·try simp only [dq] at h1
       exact zf (dj := 60) rfl rfl rfl (z5 rfl rfl (y6 rfl rfl rfl (z9 rfl rfl (z7 (z4 (zF ⟨_, _, _, _, ⟨by show _ = (_ && _); rw [h1]; rfl, hw5⟩, rfl, rfl, rfl⟩ (.cons (t := 13) rfl <| za _) (.cons (t := 0) rfl <| .cons (t := 11) rfl <| .cons (t := 48) rfl <| .cons (t := 49) rfl <| .cons (t := 50) rfl <| za _) qD qD qF))))))
      ·try simp only [dq] at h1
       exact zh (dj := 60) (c := false) rfl rfl rfl rfl rfl jD (y9 rfl rfl rfl (z9 rfl rfl (z7 (z4 (zF ⟨_, _, _, _, ⟨by show _ = (_ && _); rw [h1]; rfl, hw5⟩, rfl, rfl, rfl⟩ (.cons (t := 13) rfl <| za _) (.cons (t := 0) rfl <| .cons (t := 11) rfl <| .cons (t := 48) rfl <| .cons (t := 49) rfl <| .cons (t := 50) rfl <| za _) qD qD qF)))))
     rintro _ _ _ ⟨w, wa5, wn5, wc5, ⟨hw6, hw5⟩, rfl, rfl, rfl⟩
     refine zE qA qA qA ?_
     subst hw6
     refine zK (z4 (z8 (zH rfl rfl rfl jO ?_)))
     refine z5 rfl rfl (z7 (z4 ?_))
     rw [← stp_snoc hgi] at hw5 ⊢
     exact zR ⟨i + 1, wa5, wn5, wc5, ⟨by omega, hw5⟩, rfl, rfl, rfl, rfl⟩ qI (.cons (t := 50) rfl <| .cons (t := 13) rfl <| za _) (.cons (t := 0) rfl <| .cons (t := 11) rfl <| .cons (t := 48) rfl <| .cons (t := 49) rfl <| za _) qD qD qF
    ·try simp only [dq] at h51
     obtain rfl : kn = i := by omega
     rw [List.take_of_length_le jO] at hw4 ⊢
     refine zN (zr (zr (zO (z4 (z6 (z8 (z5 rfl rfl (z9 rfl rfl (z7 (z4 (zj ?_)))))))))))
     rw [pt_n h17 hB ho hz hze, hj]
     exact zA rfl rfl ⟨_, _, _, rfl, hw4, rfl, rfl⟩ qD qF
theorem fpart_spec {a pa ra : Option Addr} {n c bw sm pn pc rn rc : Nat} {th : Value} {os : List Ob} (hn : n ≤ 1000000) (hs : Shf os) : ∀ (d : Nat) (wa : Option Addr) (wn wc : Nat) (ws : List Wnt) (lv : Int) (p : Pt), -1 ≤ lv ∧ lv ≤ 8 → PtD os d lv p → ws.length = wn → wn + 9 ^ d ≤ 1000000 → Spec Tryz.prog 108 [.pointer (some ⟨bw, 0, none⟩), .agg (ptC p).toArray, .int .i64 lv] [rsl 34 a n c (os.map obC)] [cl bw 151 (wkC (.iface 26 (.agg #[.slice a n c])) th sm pa wa ra pn pc wn wc rn rc), own 34 90 wa wn wc ((ws).map wnC)] (fun v D' M' => ∃ (wa2 : Option Addr) (wn2 wc2 : Nat), v = .bool (ptF os d lv p ws).2 ∧ ((ptF os d lv p ws).1.length = wn2) ∧ D' = [] ∧ M' = [cl bw 151 (wkC (.iface 26 (.agg #[.slice a n c])) th sm pa wa2 ra pn pc wn2 wc2 rn rc), own 34 90 wa2 wn2 wc2 (((ptF os d lv p ws).1).map wnC)])
 | 0, _, _, _, _, _, _, _, hd, _, _ => absurd hd id
 | d + 1, _, _, _, _, _, _, hl, hd, hw, hwn => part_step hn hs hl hd hw hwn fun wa wn wc ws j q hj hd hw hwn => fpart_spec hn hs d wa wn wc ws j q jO hd hw hwn
end Cv
