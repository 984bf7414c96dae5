/-
  The walks: fronts.
-/
import Derived.Test.YtahkbpiinbepcaaGreatQb22
import Derived.Test.YtahkbpiinbepcaaGreatProg
import Derived.KernelRfl
set_option linter.unusedVariables false
set_option linter.unusedSimpArgs false
set_option linter.unusedSectionVars false
set_option maxHeartbeats 400000
set_option maxRecDepth 10000
namespace Cv
open Go Go.Proofs
/-! ## fronts -/
@[reducible] def fs0 : FS := ⟨[], [], [], []⟩
def frO (r : FS × Bool) : FS := if r.2 = true then r.1 else fs0
def frE (r : FS × Bool) : Int := if r.2 = true then 0 else 5
theorem frO_t {r : FS × Bool} (h : r.2 = true) : frO r = r.1 := if_pos h
theorem frO_f {r : FS × Bool} (h : r.2 = false) : frO r = fs0 := if_neg (by rw [h]; decide)
theorem frE_t {r : FS × Bool} (h : r.2 = true) : frE r = 0 := if_pos h
theorem frE_f {r : FS × Bool} (h : r.2 = false) : frE r = 5 := if_neg (by rw [h]; decide)
theorem fs0_ok : FSok fs0 := ⟨Nat.le_refl _, Nat.le_refl _⟩
def sumW (ws : List Wnt) (i : Nat) : Int := ((ws.take i).map (·.2.2)).foldl (· + ·) 0
theorem sumW_s {ws : List Wnt} {i : Nat} {w : Wnt} (h : ws[i]? = some w) : sumW ws (i + 1) = sumW ws i + w.2.2 := by
  unfold sumW; rw [List.take_add_one, h, List.map_append, List.foldl_append]; rfl
def WOk (ws : List Wnt) : Prop := ∀ w ∈ ws, 0 ≤ w.2.2 ∧ w.2.2 ≤ 1000000
theorem sumW_in {ws : List Wnt} (h : WOk ws) : ∀ i, i ≤ ws.length → 0 ≤ sumW ws i ∧ sumW ws i ≤ 1000000 * i
  | 0, _ => ⟨Int.le_refl _, Int.le_refl _⟩
  | i + 1, hi => by
    have a := sumW_in h i (by omega)
    have e : ws[i]? = some ws[i] := List.getElem?_eq_getElem (by omega)
    have b := h _ (List.getElem_mem (h := by omega) : ws[i] ∈ ws)
    rw [sumW_s e]; push_cast; omega
theorem at_w2 (w : Wnt) : AtN 1 (wnC w) 33 [.int .i64 w.2.2] := AtN.one (wn_last w)
theorem at_w1 (w : Wnt) : AtN 32 (wnC w) 1 (iC w.2.1) := by
  show AtN 32 (Value.int .i64 w.1 :: (w.2.1.1.map Y ++ [.int .i64 w.2.2])) (0 + 1) (w.2.1.1.map Y)
  exact AtN.skip (AtN.left (by rw [List.length_map]; exact w.2.1.2))
theorem at_w0 (w : Wnt) : AtN 1 (wnC w) 0 [.int .i64 w.1] := AtN.one rfl
theorem zv78 : ∀ w, (zeroValue 78).run Tryz.prog w = .ok (Value.agg #[Value.slice none 0 0, Value.slice none 0 0, Value.slice none 0 0]) w := fun w => by kernel_rfl
theorem ze78 : Ze Tryz.prog 78 [Value.slice none 0 0, Value.slice none 0 0, Value.slice none 0 0] := ⟨_, rfl, zv78⟩
theorem zv151 : ∀ w, (zeroValue 151).run Tryz.prog w = .ok (Value.agg #[Value.nilIface, Value.nilFunc, Value.map none, Value.slice none 0 0, Value.slice none 0 0, Value.slice none 0 0]) w := fun w => by kernel_rfl
theorem bu151 : Bu Tryz.prog 151 [Value.nilIface, Value.nilFunc, Value.map none, Value.slice none 0 0, Value.slice none 0 0, Value.slice none 0 0] (fun (i : Nat) => ([(0, 1), (1, 1), (2, 1), (3, 3)] : List (Nat × Nat))[i]?) := bu_of Tryz.underlying151 zv151 rfl (fun w => by kernel_rfl)
theorem bu78 : Bu Tryz.prog 78 [Value.slice none 0 0, Value.slice none 0 0, Value.slice none 0 0] (fun (i : Nat) => ([(0, 1), (1, 1), (2, 1)] : List (Nat × Nat))[i]?) := bu_of Tryz.underlying78 zv78 rfl (fun w => by kernel_rfl)
theorem ag78 : Ag Tryz.prog 78 3 := fun w => ⟨by kernel_rfl, by kernel_rfl⟩
theorem ze90 : Ze Tryz.prog 90 (Value.int .i64 0 :: Value.int .u8 0 :: Value.int .u8 0 :: Value.int .u8 0 :: Value.int .u8 0 :: Value.int .u8 0 :: Value.int .u8 0 :: Value.int .u8 0 :: Value.int .u8 0 :: Value.int .u8 0 :: Value.int .u8 0 :: Value.int .u8 0 :: Value.int .u8 0 :: Value.int .u8 0 :: Value.int .u8 0 :: Value.int .u8 0 :: Value.int .u8 0 :: Value.int .u8 0 :: Value.int .u8 0 :: Value.int .u8 0 :: Value.int .u8 0 :: Value.int .u8 0 :: Value.int .u8 0 :: Value.int .u8 0 :: Value.int .u8 0 :: Value.int .u8 0 :: Value.int .u8 0 :: Value.int .u8 0 :: Value.int .u8 0 :: Value.int .u8 0 :: Value.int .u8 0 :: Value.int .u8 0 :: Value.int .u8 0 :: Value.int .i64 0 :: []) := ⟨_, rfl, zv90⟩
theorem fo90_2 : Fo Tryz.prog 90 2 33 := fun a w => by kernel_rfl
theorem bu85 : Bu Tryz.prog 85 [Value.slice none 0 0, Value.slice none 0 0, Value.slice none 0 0, Value.slice none 0 0, Value.bool false] (fun (i : Nat) => ([(0, 1), (1, 1), (2, 1), (3, 1), (4, 1)] : List (Nat × Nat))[i]?) := bu_of Tryz.underlying85 zv85 rfl (fun w => by kernel_rfl)
theorem fo153_0 : Fo Tryz.prog 153 0 0 := fun a w => by kernel_rfl
theorem fo153_1 : Fo Tryz.prog 153 1 1 := fun a w => by kernel_rfl
theorem fo153_2 : Fo Tryz.prog 153 2 2 := fun a w => by kernel_rfl
theorem of_spec {a : Option Addr} {n c ft F : Nat} {cs : List Value} {d1 d2 : Asn} {os : List Ob} {tb : ID32 → Bool} {x : ID32} (hn : n ≤ 100000) (hs : Shf os) (hT : ∀ y, (lkR os y).2.2 = true → PtD os 3 (-1) (lkR os y).1) (TH : ∀ y : ID32, Spec Tryz.prog ft (.agg (iC y).toArray :: cs) [d1, d2] [] (fun u D' M' => u = .bool (tb y) ∧ D' = [] ∧ M' = [])) (hd : PDp os F x) : Spec Tryz.prog 43 [.iface 26 (.agg #[.slice a n c]), fnV ft cs, .agg (iC x).toArray] [rsl 34 a n c (os.map obC), d1, d2] [] (fun v D' M' => ∃ (pa : Option Addr) (pn pc : Nat) (wa : Option Addr) (wn wc : Nat) (ra : Option Addr) (rn rc : Nat), v = .tuple #[.agg #[.slice pa pn pc, .slice wa wn wc, .slice ra rn rc], .int .i64 (frE (pthF os tb F x fs0))] ∧ ((frO (pthF os tb F x fs0)).ps.length = pn) ∧ ((frO (pthF os tb F x fs0)).ws.length = wn) ∧ ((frO (pthF os tb F x fs0)).rs.length = rn) ∧ D' = [rsl 32 pa pn pc (((frO (pthF os tb F x fs0)).ps).map iC), rsl 34 wa wn wc (((frO (pthF os tb F x fs0)).ws).map wnC), rsl 32 ra rn rc (((frO (pthF os tb F x fs0)).rs).map iC)] ∧ M' = []) := by
 refine zI (n := 23) Tryz.func43 ?_
 intro σ D M
 refine yC (a := a) (len := n) (cap := c) (rows := os.map obC) qM (fun hol hoc => ?_)
 rw [List.length_map] at hol
 have hx2 := x.2
 have hx3 := zX x
 have huk : unk os ([] : SnM) ≤ os.length := List.length_filter_le _ _
 refine z6 (z8 (yt rfl rfl rfl (fun b5 => ?_)))
 refine zL rfl ze78 (fun b6 => ?_)
 refine z9 rfl rfl (z7 (yf (A := cl b5 38 (iC x)) qP ?_))
 refine z4 (z6 (z8 (z5 rfl rfl (z5 rfl rfl (L.makeMap aK iK rfl (fun sm => ?_))))))
 refine ye rfl bu151 (zw rfl rfl rfl <| zw rfl rfl rfl <| zw rfl rfl rfl <| zB (out := [Value.slice none 0 0, Value.slice none 0 0, Value.slice none 0 0]) rfl) ?_
 refine yt rfl rfl rfl (fun b13 => ?_)
 refine z9 rfl rfl (z7 (yw (sz := 32) (e := 38) ?_))
 refine zU qP (show own 32 38 none 0 0 [] = own 32 38 none 0 0 ((([] : List ID32)).map iC) from rfl) ?_
 refine yw (sz := 34) (e := 90) ?_
 refine zU qP (show own 34 90 none 0 0 [] = own 34 90 none 0 0 ((([] : List Wnt)).map wnC) from rfl) ?_
 refine yw (sz := 32) (e := 38) ?_
 refine zU qP (show own 32 38 none 0 0 [] = own 32 38 none 0 0 ((([] : List ID32)).map iC) from rfl) ?_
 refine z4 (z6 (z6 ?_))
 have hn1 : n ≤ 1000000 := by omega
 refine z8 (z5 rfl rfl (zp rfl zD rfl qN ?_))
 refine zC rfl (ev2 rfl rfl) qD qS (path_spec hn1 hs hT TH F none 0 0 none 0 0 none 0 0 [] 0 fs0 x hd .start jO fs0_ok jD rfl rfl rfl) ?_
 rintro _ _ _ ⟨pa, pn, pc, wa, wn, wc, ra, rn, rc, ml, C, rfl, hp, hw, hr, hm, hC, rfl, rfl⟩
 refine zy qA qA ?_
 refine yZ rfl rfl (z7 (z4 (zo rfl (fun h17 => ?_) (fun h17 => ?_))))
 ·try simp only [dq] at h17
  have hk : (pthF os tb F x fs0).2 = false := by simpa using h17
  refine z6 (z8 (ye rfl bu78 (zB (out := [Value.slice none 0 0, Value.slice none 0 0, Value.slice none 0 0]) rfl) ?_))
  refine zz ag78 rfl rfl qL qO qU qW ?_
  refine z9 rfl rfl (z7 (z4 (zj (zx ?_))))
  rw [frO_f hk, frE_f hk]
  refine yw (sz := 32) (e := 38) ?_
  refine zU qP (show own 32 38 none 0 0 [] = own 32 38 none 0 0 ((([] : List ID32)).map iC) from rfl) ?_
  refine yA (rows := ([] : List ID32).map iC) qP ?_
  refine yw (sz := 34) (e := 90) ?_
  refine zU qP (show own 34 90 none 0 0 [] = own 34 90 none 0 0 ((([] : List Wnt)).map wnC) from rfl) ?_
  refine yA (rows := ([] : List Wnt).map wnC) qP ?_
  exact yD rfl ag78 rfl qN rfl ⟨none, 0, 0, none, 0, 0, none, 0, 0, rfl, rfl, rfl, rfl, rfl, rfl⟩ qD qF
 ·try simp only [dq] at h17
  have hk : (pthF os tb F x fs0).2 = true := by simpa using h17
  refine zm (z4 (z6 (z8 (z5 rfl rfl (yi rfl rfl ?_)))))
  refine zg rfl fo151_3 rfl ?_
  refine zp rfl ag78 rfl qN ?_
  refine zz ag78 rfl rfl qL qO qU qW ?_
  refine z9 rfl rfl (z7 (z4 (zj ?_)))
  rw [frO_t hk, frE_t hk]
  refine yA (rows := ((pthF os tb F x fs0).1.ps).map iC) qP ?_
  refine yA (rows := ((pthF os tb F x fs0).1.ws).map wnC) qP ?_
  refine yA (rows := ((pthF os tb F x fs0).1.rs).map iC) qP ?_
  exact yD rfl ag78 rfl qN rfl ⟨pa, pn, pc, wa, wn, wc, ra, rn, rc, rfl, hp, hw, hr, rfl, rfl⟩ qD qF
theorem fbytes_spec {pa wa ra : Option Addr} {pn pc wn wc rn rc : Nat} {ws : List Wnt} (hwn : wn ≤ 100000) (hok : WOk ws) : Spec Tryz.prog 78 [.agg #[.slice pa pn pc, .slice wa wn wc, .slice ra rn rc]] [rsl 34 wa wn wc ((ws).map wnC)] [] (fun v D' M' => v = .int .i64 (sumW ws wn) ∧ D' = [] ∧ M' = []) := by
 refine zI (n := 19) Tryz.func78 ?_
 intro σ D M
 refine yC (a := wa) (len := wn) (cap := wc) (rows := ws.map wnC) qM (fun hol hoc => ?_)
 rw [List.length_map] at hol
 refine z6 (z8 (yt rfl rfl rfl (fun b1 => ?_)))
 refine z9 rfl rfl (z7 (z4 (z6 (z8 (z9 rfl rfl (z7 (z4 (z6 (z6 (z8 (zg rfl fo78_1 rfl ?_)))))))))))
 refine zi rfl sc76 rfl qC ?_
 refine y1 rfl xk rfl (z5 rfl rfl (z7 (z4 (zu (zY (fun K' D' M' μ => ∃ (i : Nat), (i ≤ wn) ∧ K' = [(9, .int .i64 (i : Int)), (3, .int .i64 (sumW ws i))] ∧ D' = [] ∧ M' = [] ∧ μ = wn - i) (.cons (t := 7) rfl <| .cons (t := 8) rfl <| za _) (⟨0, Nat.zero_le _, rfl, rfl, rfl, rfl⟩) (.cons (t := 9) rfl <| .cons (t := 3) rfl <| za _) qD qS ?_)))))
 rintro K1 D1 M1 m1 ⟨i, hi, rfl, rfl, rfl, rfl⟩
 refine zE qA qA qA ?_
 refine z6 (z8 (zQ rfl rfl rfl (z7 (z4 (z6 (zo rfl (fun h10 => ?_) (fun h10 => ?_)))))))
 ·try simp only [dq] at h10
  refine zm (z4 (z6 (zu (z6 ?_))))
  have hgi : ws[i]? = some (gd ws i) := zJ jO
  obtain ⟨w, hw_⟩ : ∃ z, z = gd ws i := ⟨_, rfl⟩
  rw [← hw_] at hgi
  clear hw_
  have hgr : (ws.map wnC)[i]? = some (wnC w) := zS hgi
  have hw3 := wnC_len w
  have hsi := sumW_in hok i jO
  have hwo := hok w (List.mem_of_getElem? hgi)
  refine z8 (yH (i := i) rfl xk sz90 rfl rfl qM jR qG (fun b11 o11 => ?_))
  refine zp rfl ag90 rfl (x9 qM hw3) ?_
  refine zL rfl ze90 (fun b5 => ?_)
  refine zz ag90 rfl rfl qL qO qU qW ?_
  refine z7 (yf (A := cl b5 90 (wnC w)) qP ?_)
  refine z4 (z8 (z5 rfl rfl (zg rfl fo90_2 rfl ?_)))
  refine zi rfl sc3 rfl (Cells.ofF qM (at_w2 w)) ?_
  refine zH rfl rfl rfl jO ?_
  refine z9 rfl rfl (z7 (zK (z4 (z8 (zH rfl rfl rfl jO ?_)))))
  refine z5 rfl rfl (z7 (z4 ?_))
  rw [← sumW_s hgi]
  exact zR ⟨i + 1, jO, rfl, rfl, rfl, rfl⟩ qI (.cons (t := 9) rfl <| .cons (t := 3) rfl <| za _) (.cons (t := 7) rfl <| .cons (t := 8) rfl <| za _) qD qD qF
 ·try simp only [dq] at h10
  obtain rfl : wn = i := by omega
  exact zN (zr (zr (zO (z4 (z6 (z8 (z5 rfl rfl (z9 rfl rfl (z7 (z4 (zj (zA rfl rfl ⟨rfl, rfl, rfl⟩ qD qF))))))))))))
theorem rof_spec {a ta : Option Addr} {n c tn tc : Nat} {os : List Ob} {tl : List (List UInt8)} {x : ID32} (hn : n ≤ 100000) (htn : tn ≤ 1000000) (hs : Shf os) (hT : ∀ y, (lkR os y).2.2 = true → PtD os 3 (-1) (lkR os y).1) : Spec Tryz.prog 46 [.slice a n c, .slice ta tn tc, S x.1] [rsl 3 a n c (os.map obR), rsl 1 ta tn tc (tl.map ys)] [] (fun v D' M' => ∃ (pa2 : Option Addr) (pn2 pc2 : Nat) (wa2 : Option Addr) (wn2 wc2 : Nat) (ra2 : Option Addr) (rn2 rc2 : Nat) (sa2 : Option Addr) (sk2 sd2 : Nat), v = .agg [.slice pa2 pn2 pc2, .slice wa2 wn2 wc2, .slice ra2 rn2 rc2, .slice sa2 sk2 sd2, .bool (rpF os (fun y : ID32 => decide (y.1 ∈ tl)) 41 x fs0 false).2].toArray ∧ ((rpF os (fun y : ID32 => decide (y.1 ∈ tl)) 41 x fs0 false).1.ps.length = pn2) ∧ ((rpF os (fun y : ID32 => decide (y.1 ∈ tl)) 41 x fs0 false).1.ws.length = wn2) ∧ ((rpF os (fun y : ID32 => decide (y.1 ∈ tl)) 41 x fs0 false).1.rs.length = rn2) ∧ D' = [rsl 1 pa2 pn2 pc2 ((((rpF os (fun y : ID32 => decide (y.1 ∈ tl)) 41 x fs0 false).1.ps).map (·.1)).map ys), rsl 3 wa2 wn2 wc2 (((rpF os (fun y : ID32 => decide (y.1 ∈ tl)) 41 x fs0 false).1.ws).map wnR), rsl 1 ra2 rn2 rc2 ((((rpF os (fun y : ID32 => decide (y.1 ∈ tl)) 41 x fs0 false).1.rs).map (·.1)).map ys), rsl 1 sa2 sk2 sd2 ((((rpF os (fun y : ID32 => decide (y.1 ∈ tl)) 41 x fs0 false).1.sn).map (·.1)).map ys)] ∧ M' = []) := by
 refine zI (n := 12) Tryz.func46 ?_
 intro σ D M
 refine yC (a := a) (len := n) (cap := c) (rows := os.map obR) qM (fun hol hoc => ?_)
 rw [List.length_map] at hol
 have hus : US os [] ≤ os.length := List.length_filter_le _ _
 refine z6 (z8 (zL rfl ze85 (fun b6 => ?_)))
 refine z7 (yw (sz := 1) (e := 9) ?_)
 refine zU qP (show own 1 9 none 0 0 [] = own 1 9 none 0 0 ((([] : List ID32).map (·.1)).map ys) from rfl) ?_
 refine yA (rows := (([] : List ID32).map (·.1)).map ys) qP ?_
 refine yw (sz := 3) (e := 153) ?_
 refine zU qP (show own 3 153 none 0 0 [] = own 3 153 none 0 0 (([] : List Wnt).map wnR) from rfl) ?_
 refine yA (rows := ([] : List Wnt).map wnR) qP ?_
 refine z4 (z6 (z8 (ye rfl bu85 (zB (out := [Value.slice none 0 0, Value.slice none 0 0, Value.slice none 0 0, Value.slice none 0 0, Value.bool false]) rfl) ?_)))
 refine z5 rfl rfl (z5 rfl rfl (z5 rfl rfl (zC rfl (ev5 rfl rfl rfl rfl rfl) qD qS (rpath_spec jO htn hs hT 41 none 0 0 none 0 0 none 0 0 none 0 0 fs0 false x 0 1000000 jD jD ⟨fs0_ok, by decide, fun _ => by decide, by show 0 + 9 * US os [] ≤ 1000000; omega⟩ jD rfl rfl rfl rfl) ?_)))
 rintro _ _ _ ⟨pa2, pn2, pc2, wa2, wn2, wc2, ra2, rn2, rc2, sa2, sk2, sd2, rfl, hp2, hw2, hr2, hs2, rfl, rfl⟩
 refine zy qA qA ?_
 refine zz ag85 rfl rfl qL qO qU qW ?_
 exact z7 (z4 (zj (xd rfl ag85 rfl qN ⟨_, _, _, _, _, _, _, _, _, _, _, _, rfl, hp2, hw2, hr2, rfl, rfl⟩ qD qF)))
theorem same22_spec {a b : Option Addr} {n c m d : Nat} {xs : List ID32} {us : List (List UInt8)} (hn : n ≤ 1000000) (hm : m ≤ 1000000) : Spec Tryz.prog 80 [.slice a n c, .slice b m d] [rsl 32 a n c (xs.map iC), rsl 1 b m d (us.map ys)] [] (fun v D' M' => v = .bool (decide (xs.map (·.1) = us)) ∧ D' = [] ∧ M' = []) := by
 refine zI (n := 27) Tryz.func80 ?_
 intro σ D M
 refine yC (a := a) (len := n) (cap := c) (rows := xs.map iC) qM (fun hxl hxc => ?_)
 rw [List.length_map] at hxl
 refine yC (a := b) (len := m) (cap := d) (rows := us.map ys) qM (fun hul huc => ?_)
 rw [List.length_map] at hul
 
 refine z6 (z8 (z9 rfl rfl (z7 (z4 (z6 (z6 (z8 (z5 rfl rfl (y1 rfl zG rfl (z5 rfl rfl (y1 rfl yG rfl (yJ rfl rfl rfl (z7 (z4 (zo rfl (fun h10 => ?_) (fun h10 => ?_))))))))))))))))
 ·try simp only [dq] at h10
  exact z6 (z8 (z9 rfl rfl (z7 (z4 (zj (zx (zA rfl rfl ⟨congrArg Value.bool (decide_eq_false (fun q => by have := congrArg List.length q; rw [List.length_map] at this; omega)).symm, rfl, rfl⟩ qD qF)))))))
 ·try simp only [dq] at h10
  refine zm (z4 (z6 (z6 (z8 (z5 rfl rfl (y1 rfl yG rfl (z5 rfl rfl (z7 (z4 (zu (zY (fun K' D' M' μ => ∃ (i : Nat), (i ≤ m ∧ (xs.map (·.1)).take i = us.take i) ∧ K' = [(13, .int .i64 (i : Int))] ∧ D' = [] ∧ M' = [] ∧ μ = m - i) (.cons (t := 0) rfl <| .cons (t := 1) rfl <| .cons (t := 12) rfl <| za _) (⟨0, ⟨Nat.zero_le _, rfl⟩, rfl, rfl, rfl, rfl⟩) (.cons (t := 13) rfl <| za _) qD qS ?_)))))))))))
  rintro K1 D1 M1 m1 ⟨i, ⟨hi, heq⟩, rfl, rfl, rfl, rfl⟩
  refine zE qA qA qA ?_
  refine z6 (z8 (zQ rfl rfl rfl (z7 (z4 (z6 (zo rfl (fun h14 => ?_) (fun h14 => ?_)))))))
  ·try simp only [dq] at h14
   refine zm (z4 (z6 (zu (z6 (z8 (z5 rfl rfl (z9 rfl rfl (z7 (z4 (z6 ?_))))))))))
   have hgx : xs[i]? = some (gd xs i) := zJ jO
   obtain ⟨x, hx_⟩ : ∃ z, z = gd xs i := ⟨_, rfl⟩
   rw [← hx_] at hgx
   clear hx_
   have hrx : (xs.map iC)[i]? = some (iC x) := zS hgx
   have hx32 := x.2
   have hx3 := zX x
   have hgu : us[i]? = some (gd us i) := zJ jO
   obtain ⟨u, hu_⟩ : ∃ z, z = gd us i := ⟨_, rfl⟩
   rw [← hu_] at hgu
   clear hu_
   have hru : (us.map ys)[i]? = some (ys u) := zS hgu
   refine T.rslAddr (rows := xs.map iC) qM (fun e => by have := congrArg List.length e; rw [List.length_map] at this; simp only [List.length_nil] at this; omega) (fun bo oo ha => ?_)
   subst ha
   refine T.rslAddr (rows := us.map ys) qM (fun e => by have := congrArg List.length e; rw [List.length_map] at this; simp only [List.length_nil] at this; omega) (fun bq oq hb => ?_)
   subst hb
   refine yB qk qk (z5 rfl rfl (z5 rfl rfl (L.idxR (i := i) rfl zG zM rfl rfl qM jR qI qG ?_)))
   refine zp rfl zD rfl (x9 qM hx3) ?_
   refine zW rfl (ev1 rfl) qD qS (obytes_spec (l := x.1) hx32) jF ?_
   refine z5 rfl rfl (z5 rfl rfl (L.idxR (i := i) rfl yG sz9 rfl rfl qM jR qI qG ?_))
   refine zi rfl sc9 rfl qC ?_
   refine L.neS rfl rfl rfl ?_
   refine yx (z4 (zo rfl (fun h25 => ?_) (fun h25 => ?_)))
   ·try simp only [dq] at h25
    exact z6 (z8 (z9 rfl rfl (z7 (z4 (zj (y2 (zx (zx (y2 (zx (zA rfl rfl ⟨congrArg Value.bool (decide_eq_false (fun q => by rw [← q, List.getElem?_map, hgx] at hgu; exact h25 (Option.some.inj hgu))).symm, rfl, rfl⟩ qD qF)))))))))))
   ·try simp only [dq] at h25
    refine zm (zK (z4 (z8 (zH rfl rfl rfl jO ?_))))
    exact z5 rfl rfl (z7 (z4 (zR ⟨i + 1, ⟨by omega, eq_snoc hgx hgu heq h25⟩, rfl, rfl, rfl, rfl⟩ qI (.cons (t := 13) rfl <| za _) (.cons (t := 0) rfl <| .cons (t := 1) rfl <| .cons (t := 12) rfl <| za _) qD qD qF)))
  ·try simp only [dq] at h14
   obtain rfl : m = i := by omega
   rw [List.take_of_length_le (by rw [List.length_map]; omega), List.take_of_length_le jO] at heq
   exact zN (zr (zr (zO (z4 (z6 (z8 (z9 rfl rfl (z7 (z4 (zj (zA rfl rfl ⟨congrArg Value.bool (decide_eq_true heq).symm, rfl, rfl⟩ qD qF)))))))))))
theorem is22_spec {pa wa ra pa2 wa2 ra2 sa2 : Option Addr} {pn pc wn wc rn rc pn2 pc2 wn2 wc2 rn2 rc2 sk2 sd2 : Nat} {ov : Bool} {s : FS} (hpn : pn ≤ 1000000) (hwn : wn ≤ 100000) (hrn : rn ≤ 1000000) (hok : WOk s.ws) : Spec Tryz.prog 45 [.agg #[.slice pa pn pc, .slice wa wn wc, .slice ra rn rc], .agg [.slice pa2 pn2 pc2, .slice wa2 wn2 wc2, .slice ra2 rn2 rc2, .slice sa2 sk2 sd2, .bool ov].toArray] [rsl 32 pa pn pc ((s.ps).map iC), rsl 34 wa wn wc ((s.ws).map wnC), rsl 32 ra rn rc ((s.rs).map iC), rsl 1 pa2 pn2 pc2 (((s.ps).map (·.1)).map ys), rsl 3 wa2 wn2 wc2 ((s.ws).map wnR), rsl 1 ra2 rn2 rc2 (((s.rs).map (·.1)).map ys)] [] (fun v D' M' => v = .bool true ∧ D' = [] ∧ M' = []) := by
 refine zI (n := 74) Tryz.func45 ?_
 intro σ D M
 refine yC (a := pa) (len := pn) (cap := pc) (rows := s.ps.map iC) qM (fun hlp hcp => ?_)
 rw [List.length_map] at hlp
 refine yC (a := wa) (len := wn) (cap := wc) (rows := s.ws.map wnC) qM (fun hlw hcw => ?_)
 rw [List.length_map] at hlw
 refine yC (a := ra) (len := rn) (cap := rc) (rows := s.rs.map iC) qM (fun hlr hcr => ?_)
 rw [List.length_map] at hlr
 refine yC (a := pa2) (len := pn2) (cap := pc2) (rows := (s.ps.map (·.1)).map ys) qM (fun hlp2 hcp2 => ?_)
 rw [List.length_map, List.length_map] at hlp2
 refine yC (a := wa2) (len := wn2) (cap := wc2) (rows := s.ws.map wnR) qM (fun hlw2 hcw2 => ?_)
 rw [List.length_map] at hlw2
 refine yC (a := ra2) (len := rn2) (cap := rc2) (rows := (s.rs.map (·.1)).map ys) qM (fun hlr2 hcr2 => ?_)
 rw [List.length_map, List.length_map] at hlr2
 refine z6 (z8 (yt rfl rfl rfl (fun b2 => ?_)))
 refine yt rfl rfl rfl (fun b3 => ?_)
 refine z9 rfl rfl (z7 (yf (A := cl b2 78 [.slice pa pn pc, .slice wa wn wc, .slice ra rn rc]) qP ?_))
 refine yf (A := cl b3 85 [.slice pa2 pn2 pc2, .slice wa2 wn2 wc2, .slice ra2 rn2 rc2, .slice sa2 sk2 sd2, .bool ov]) qP ?_
 refine z4 (z6 (z6 (z8 (zg rfl fo78_1 rfl ?_))))
 refine zi rfl sc76 rfl qC ?_
 refine y1 rfl xk rfl (zg rfl fo85_1 rfl ?_)
 refine zi rfl sc83 rfl qC ?_
 refine y1 rfl yP rfl (yJ rfl rfl rfl (z5 rfl rfl (zv (t := 16) rfl (show _ = Value.bool false from congrArg Value.bool (decide_eq_false (fun q => q jO))) ?_)))
 refine zf (dj := 16) rfl rfl rfl (zg rfl fo78_0 rfl ?_)
 refine zf (dj := 16) rfl rfl rfl (zi rfl sc30 rfl qC ?_)
 refine zf (dj := 16) rfl rfl rfl (zg rfl fo85_0 rfl ?_)
 refine zf (dj := 16) rfl rfl rfl (zi rfl sc31 rfl qC ?_)
 refine zf (dj := 16) rfl rfl rfl (zW rfl (ev2 rfl rfl) qD qS (same22_spec (xs := s.ps) (us := s.ps.map (·.1)) hpn jO) jF ?_)
 refine zf (dj := 16) rfl rfl rfl (yZ rfl rfl (y9 rfl rfl rfl (z5 rfl rfl (zv (t := 24) rfl (show _ = Value.bool false from congrArg Value.bool (by rw [decide_eq_true rfl]; rfl)) ?_))))
 refine zf (dj := 24) rfl rfl rfl (zg rfl fo78_2 rfl ?_)
 refine zf (dj := 24) rfl rfl rfl (zi rfl sc30 rfl qC ?_)
 refine zf (dj := 24) rfl rfl rfl (zg rfl fo85_2 rfl ?_)
 refine zf (dj := 24) rfl rfl rfl (zi rfl sc31 rfl qC ?_)
 refine zf (dj := 24) rfl rfl rfl (zW rfl (ev2 rfl rfl) qD qS (same22_spec (xs := s.rs) (us := s.rs.map (·.1)) hrn jO) jF ?_)
 refine zf (dj := 24) rfl rfl rfl (yZ rfl rfl (y9 rfl rfl rfl (z7 (z4 (yR rfl (by rw [decide_eq_true rfl]; rfl) ?_)))))
 refine zm (z4 (z6 (z8 (z9 rfl rfl (z7 (z4 (z6 (z6 (z8 (zg rfl fo85_1 rfl ?_))))))))))
 refine zi rfl sc83 rfl qC ?_
 refine y1 rfl yP rfl (z5 rfl rfl (z7 (z4 (zu (zY (fun K' D' M' μ => ∃ (i : Nat), (i ≤ wn) ∧ K' = [(35, .int .i64 (i : Int)), (5, .int .i64 (sumW s.ws i))] ∧ D' = [] ∧ M' = [] ∧ μ = wn - i) (.cons (t := 2) rfl <| .cons (t := 33) rfl <| .cons (t := 34) rfl <| za _) (⟨0, Nat.zero_le _, rfl, rfl, rfl, rfl⟩) (.cons (t := 35) rfl <| .cons (t := 5) rfl <| za _) qD qS ?_)))))
 rintro K1 D1 M1 m1 ⟨i, hi, rfl, rfl, rfl, rfl⟩
 refine zE qA qA qA ?_
 refine z6 (z8 (zQ rfl rfl rfl (z7 (z4 (z6 (zo rfl (fun h36 => ?_) (fun h36 => ?_)))))))
 ·try simp only [dq] at h36
  refine zm (z4 (z6 (zu (z6 ?_))))
  have hgi : s.ws[i]? = some (gd s.ws i) := zJ jO
  obtain ⟨w, hw_⟩ : ∃ z, z = gd s.ws i := ⟨_, rfl⟩
  rw [← hw_] at hgi
  clear hw_
  have hgr : (s.ws.map wnC)[i]? = some (wnC w) := zS hgi
  have hgR : (s.ws.map wnR)[i]? = some (wnR w) := zS hgi
  have hw3 := wnC_len w
  have hw32 := w.2.1.2
  have hsi := sumW_in hok i jO
  have hwo := hok w (List.mem_of_getElem? hgi)
  refine z8 (z5 rfl rfl (yH (i := i) rfl yP sz153 rfl rfl qM jR qG (fun b38 o38 => ?_)))
  refine zp rfl ag153 rfl (x9 qM rfl) ?_
  refine zL rfl ze153 (fun b7 => ?_)
  refine z9 rfl rfl (zz ag153 rfl rfl qL qO qU qW ?_)
  refine z7 (yf (A := cl b7 153 (wnR w)) qP ?_)
  refine z4 (z6 (z6 (z8 (zg rfl fo78_1 rfl ?_))))
  refine zi rfl sc76 rfl qC ?_
  refine z5 rfl rfl (yH (i := i) rfl xk sz90 rfl rfl qM jR qG (fun b43 o43 => ?_))
  refine zp rfl ag90 rfl (x9 qM hw3) ?_
  refine zL rfl ze90 (fun b8 => ?_)
  refine zz ag90 rfl rfl qL qO qU qW ?_
  refine z7 (yf (A := cl b8 90 (wnC w)) qP ?_)
  refine z4 (z6 (yB qk qk (zg rfl fo90_0 rfl ?_)))
  refine zi rfl sc3 rfl (Cells.ofF qM (at_w0 w)) ?_
  refine zg rfl fo153_0 rfl ?_
  refine zi rfl sc3 rfl qC ?_
  refine yJ rfl rfl rfl (z5 rfl rfl (zv (t := 50) rfl (show _ = Value.bool false from congrArg Value.bool (decide_eq_false (fun q => q rfl))) ?_))
  refine zf (dj := 50) rfl rfl rfl (zg rfl fo90_1 rfl ?_)
  refine zf (dj := 50) rfl rfl rfl (zp rfl zD rfl (CellsN.ofF qM (at_w1 w)) ?_)
  refine zf (dj := 50) rfl rfl rfl (zW rfl (ev1 rfl) qD qS (obytes_spec (l := w.2.1.1) hw32) jF ?_)
  refine zf (dj := 50) rfl rfl rfl (zg rfl fo153_1 rfl ?_)
  refine zf (dj := 50) rfl rfl rfl (zi rfl sc9 rfl qC ?_)
  refine zf (dj := 50) rfl rfl rfl (L.neS rfl rfl rfl ?_)
  refine y9 rfl rfl rfl (z5 rfl rfl (zv (t := 58) rfl (show _ = Value.bool false from congrArg Value.bool (by rw [decide_eq_true rfl]; rfl)) ?_))
  refine zf (dj := 58) rfl rfl rfl (zg rfl fo90_2 rfl ?_)
  refine zf (dj := 58) rfl rfl rfl (zi rfl sc3 rfl (Cells.ofF qM (at_w2 w)) ?_)
  refine zf (dj := 58) rfl rfl rfl (zg rfl fo153_2 rfl ?_)
  refine zf (dj := 58) rfl rfl rfl (zi rfl sc3 rfl qC ?_)
  refine zf (dj := 58) rfl rfl rfl (yJ rfl rfl rfl (y9 rfl rfl rfl (yx (z4 (yR rfl (decide_eq_false (fun q => q rfl)) ?_)))))
  refine zm (z4 (z8 (z5 rfl rfl (zg rfl fo153_2 rfl ?_))))
  refine zi rfl sc3 rfl qC ?_
  refine zH rfl rfl rfl jO ?_
  refine z9 rfl rfl (z7 (zK (z4 (z8 (zH rfl rfl rfl jO ?_)))))
  refine z5 rfl rfl (z7 (z4 ?_))
  rw [← sumW_s hgi]
  exact zR ⟨i + 1, jO, rfl, rfl, rfl, rfl⟩ qI (.cons (t := 35) rfl <| .cons (t := 5) rfl <| za _) (.cons (t := 2) rfl <| .cons (t := 33) rfl <| .cons (t := 34) rfl <| za _) qD qD qF
 ·try simp only [dq] at h36
  obtain rfl : wn = i := by omega
  refine zN (zr (zr (zO (z4 (z6 (z8 (zp rfl ag78 rfl qN ?_)))))))
  refine zW rfl (ev1 rfl) qD qS (fbytes_spec (ws := s.ws) hwn hok) jF ?_
  exact z5 rfl rfl (yn rfl rfl rfl (z9 rfl rfl (z7 (z4 (zj (zA rfl rfl ⟨congrArg Value.bool (decide_eq_true rfl), rfl, rfl⟩ qD qF))))))
end Cv
