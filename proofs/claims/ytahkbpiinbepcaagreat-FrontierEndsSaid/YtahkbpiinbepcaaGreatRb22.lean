/-
  The walks: fronts.
-/
import Derived.Test.YtahkbpiinbepcaaGreatLM22
import Derived.Test.YtahkbpiinbepcaaGreatProg
import Derived.KernelRfl
import Derived.Test.YtahkbpiinbepcaaGreatNb22
set_option linter.unusedVariables false
set_option linter.unusedSimpArgs false
set_option linter.unusedSectionVars false
set_option maxHeartbeats 400000
set_option maxRecDepth 10000
namespace Cv
open Go Go.Proofs
/-! ## fronts -/
@[reducible] def fs0 : FS := ⟨[], [], [], []⟩
def frO (r : FS × Bool) : FS := if r.2 = true then r.1 else fs0
def frE (r : FS × Bool) : Int := if r.2 = true then 0 else 5
theorem frO_t {r : FS × Bool} (h : r.2 = true) : frO r = r.1 := if_pos h
theorem frO_f {r : FS × Bool} (h : r.2 = false) : frO r = fs0 := if_neg (by rw [h]; decide)
theorem frE_t {r : FS × Bool} (h : r.2 = true) : frE r = 0 := if_pos h
theorem frE_f {r : FS × Bool} (h : r.2 = false) : frE r = 5 := if_neg (by rw [h]; decide)
theorem fs0_ok : FSok fs0 := ⟨Nat.le_refl _, Nat.le_refl _⟩
def sumW (ws : List Wnt) (i : Nat) : Int := ((ws.take i).map (·.2.2)).foldl (· + ·) 0
theorem sumW_s {ws : List Wnt} {i : Nat} {w : Wnt} (h : ws[i]? = some w) : sumW ws (i + 1) = sumW ws i + w.2.2 := by
  unfold sumW; rw [List.take_add_one, h, List.map_append, List.foldl_append]; rfl
def WOk (ws : List Wnt) : Prop := ∀ w ∈ ws, 0 ≤ w.2.2 ∧ w.2.2 ≤ 1000000
theorem sumW_in {ws : List Wnt} (h : WOk ws) : ∀ i, i ≤ ws.length → 0 ≤ sumW ws i ∧ sumW ws i ≤ 1000000 * i
  | 0, _ => ⟨Int.le_refl _, Int.le_refl _⟩
  | i + 1, hi => by
    have a := sumW_in h i (by omega)
    have e : ws[i]? = some ws[i] := List.getElem?_eq_getElem (by omega)
    have b := h _ (List.getElem_mem (h := by omega) : ws[i] ∈ ws)
    rw [sumW_s e]; push_cast; omega
theorem WOk.nw {ws : List Wnt} {x : Wnt} (h : WOk ws) (k : 0 ≤ x.2.2 ∧ x.2.2 ≤ 1000000) (os : List Ob) : WOk (ndW os ws x) := by
  unfold ndW; split
  · exact h
  · split
    · exact h
    · intro w hw
      rcases List.mem_append.1 hw with q | q
      · exact h w q
      · rw [List.mem_singleton.1 q]; exact k
theorem fr_lens (os : List Ob) (tb : ID32 → Bool) (f : Nat) (x : ID32) : (frO (pthF os tb f x fs0)).ps.length ≤ 33 ∧ (frO (pthF os tb f x fs0)).rs.length ≤ 33 ∧ (frO (pthF os tb f x fs0)).ws.length ≤ 24090 := by
  have a := pth_ok os tb f x fs0 fs0_ok (by decide)
  unfold frO; split
  · have := a.ok.lens a.le; exact ⟨a.le, this.1, this.2⟩
  · exact ⟨Nat.zero_le _, Nat.zero_le _, Nat.zero_le _⟩
theorem at_w2 (w : Wnt) : AtN 1 (wnC w) 33 [.int .i64 w.2.2] := AtN.one (wn_last w)
theorem at_w1 (w : Wnt) : AtN 32 (wnC w) 1 (iC w.2.1) := by
  show AtN 32 (Value.int .i64 w.1 :: (w.2.1.1.map Y ++ [.int .i64 w.2.2])) (0 + 1) (w.2.1.1.map Y)
  exact AtN.skip (AtN.left (by rw [List.length_map]; exact w.2.1.2))
theorem at_w0 (w : Wnt) : AtN 1 (wnC w) 0 [.int .i64 w.1] := AtN.one rfl
theorem zv78 : ∀ w, (zeroValue 78).run Tryz.prog w = .ok (Value.agg #[Value.slice none 0 0, Value.slice none 0 0, Value.slice none 0 0]) w := fun w => by kernel_rfl
theorem ze78 : Ze Tryz.prog 78 [Value.slice none 0 0, Value.slice none 0 0, Value.slice none 0 0] := ⟨_, rfl, zv78⟩
theorem zv151 : ∀ w, (zeroValue 151).run Tryz.prog w = .ok (Value.agg #[Value.nilIface, Value.nilFunc, Value.map none, Value.slice none 0 0, Value.slice none 0 0, Value.slice none 0 0]) w := fun w => by kernel_rfl
theorem bu151 : Bu Tryz.prog 151 [Value.nilIface, Value.nilFunc, Value.map none, Value.slice none 0 0, Value.slice none 0 0, Value.slice none 0 0] (fun (i : Nat) => ([(0, 1), (1, 1), (2, 1), (3, 3)] : List (Nat × Nat))[i]?) := bu_of Tryz.underlying151 zv151 rfl (fun w => by kernel_rfl)
theorem bu78 : Bu Tryz.prog 78 [Value.slice none 0 0, Value.slice none 0 0, Value.slice none 0 0] (fun (i : Nat) => ([(0, 1), (1, 1), (2, 1)] : List (Nat × Nat))[i]?) := bu_of Tryz.underlying78 zv78 rfl (fun w => by kernel_rfl)
theorem ag78 : Ag Tryz.prog 78 3 := fun w => ⟨by kernel_rfl, by kernel_rfl⟩
theorem ze90 : Ze Tryz.prog 90 (Value.int .i64 0 :: Value.int .u8 0 :: Value.int .u8 0 :: Value.int .u8 0 :: Value.int .u8 0 :: Value.int .u8 0 :: Value.int .u8 0 :: Value.int .u8 0 :: Value.int .u8 0 :: Value.int .u8 0 :: Value.int .u8 0 :: Value.int .u8 0 :: Value.int .u8 0 :: Value.int .u8 0 :: Value.int .u8 0 :: Value.int .u8 0 :: Value.int .u8 0 :: Value.int .u8 0 :: Value.int .u8 0 :: Value.int .u8 0 :: Value.int .u8 0 :: Value.int .u8 0 :: Value.int .u8 0 :: Value.int .u8 0 :: Value.int .u8 0 :: Value.int .u8 0 :: Value.int .u8 0 :: Value.int .u8 0 :: Value.int .u8 0 :: Value.int .u8 0 :: Value.int .u8 0 :: Value.int .u8 0 :: Value.int .u8 0 :: Value.int .i64 0 :: []) := ⟨_, rfl, zv90⟩
theorem fo90_2 : Fo Tryz.prog 90 2 33 := fun a w => by kernel_rfl
theorem of_spec {a : Option Addr} {n c ft F : Nat} {cs : List Value} {d1 d2 : Asn} {os : List Ob} {tb : ID32 → Bool} {x : ID32} (hn : n ≤ 100000) (hs : Shf os) (hT : ∀ y, (lkR os y).2.2 = true → PtD os 3 (-1) (lkR os y).1) (TH : ∀ y : ID32, Spec Tryz.prog ft (.agg (iC y).toArray :: cs) [d1, d2] [] (fun u D' M' => u = .bool (tb y) ∧ D' = [] ∧ M' = [])) (hd : PDp os F x) : Spec Tryz.prog 43 [.iface 26 (.agg #[.slice a n c]), fnV ft cs, .agg (iC x).toArray] [rsl 34 a n c (os.map obC), d1, d2] [] (fun v D' M' => ∃ (pa : Option Addr) (pn pc : Nat) (wa : Option Addr) (wn wc : Nat) (ra : Option Addr) (rn rc : Nat), v = .tuple #[.agg #[.slice pa pn pc, .slice wa wn wc, .slice ra rn rc], .int .i64 (frE (pthF os tb F x fs0))] ∧ ((frO (pthF os tb F x fs0)).ps.length = pn) ∧ ((frO (pthF os tb F x fs0)).ws.length = wn) ∧ ((frO (pthF os tb F x fs0)).rs.length = rn) ∧ D' = [rsl 32 pa pn pc (((frO (pthF os tb F x fs0)).ps).map iC), rsl 34 wa wn wc (((frO (pthF os tb F x fs0)).ws).map wnC), rsl 32 ra rn rc (((frO (pthF os tb F x fs0)).rs).map iC)] ∧ M' = []) := by
 refine zG (n := 23) Tryz.func43 ?_
 intro σ D M
 refine yP (a := a) (len := n) (cap := c) (rows := os.map obC) qM (fun hol hoc => ?_)
 rw [List.length_map] at hol
 have hx2 := x.2
 have hx3 := zQ x
 have huk : unk os ([] : SnM) ≤ os.length := List.length_filter_le _ _
 refine z6 (z8 (yA rfl rfl rfl (fun b5 => ?_)))
 refine zR rfl ze78 (fun b6 => ?_)
 refine z9 rfl rfl (z7 (y8 (A := cl b5 38 (iC x)) qP ?_))
 refine z4 (z6 (z8 (z5 rfl rfl (z5 rfl rfl (L.makeMap aK iK rfl (fun sm => ?_))))))
 refine yu rfl bu151 (zx rfl rfl rfl <| zx rfl rfl rfl <| zx rfl rfl rfl <| zK (out := [Value.slice none 0 0, Value.slice none 0 0, Value.slice none 0 0]) rfl) ?_
 refine yA rfl rfl rfl (fun b13 => ?_)
 refine z9 rfl rfl (z7 (yv (sz := 32) (e := 38) ?_))
 refine zN qP (show own 32 38 none 0 0 [] = own 32 38 none 0 0 ((([] : List ID32)).map iC) from rfl) ?_
 refine yv (sz := 34) (e := 90) ?_
 refine zN qP (show own 34 90 none 0 0 [] = own 34 90 none 0 0 ((([] : List Wnt)).map wnC) from rfl) ?_
 refine yv (sz := 32) (e := 38) ?_
 refine zN qP (show own 32 38 none 0 0 [] = own 32 38 none 0 0 ((([] : List ID32)).map iC) from rfl) ?_
 refine z4 (z6 (z6 ?_))
 have hn1 : n ≤ 1000000 := by omega
 refine z8 (z5 rfl rfl (zt rfl zy rfl qN ?_))
 refine zA rfl (ev2 rfl rfl) qD qS (path_spec hn1 hs hT TH F none 0 0 none 0 0 none 0 0 [] 0 fs0 x hd .start jO fs0_ok jD rfl rfl rfl) ?_
 rintro _ _ _ ⟨pa, pn, pc, wa, wn, wc, ra, rn, rc, ml, C, rfl, hp, hw, hr, hm, hC, rfl, rfl⟩
 refine zw qA qA ?_
 refine yR rfl rfl (z7 (z4 (zq rfl (fun h17 => ?_) (fun h17 => ?_))))
 ·try simp only [dq] at h17
  have hk : (pthF os tb F x fs0).2 = false := by simpa using h17
  refine z6 (z8 (yu rfl bu78 (zK (out := [Value.slice none 0 0, Value.slice none 0 0, Value.slice none 0 0]) rfl) ?_))
  refine zL ag78 rfl rfl qL qO qU qW ?_
  refine z9 rfl rfl (z7 (z4 (zm (zD ?_))))
  rw [frO_f hk, frE_f hk]
  refine yv (sz := 32) (e := 38) ?_
  refine zN qP (show own 32 38 none 0 0 [] = own 32 38 none 0 0 ((([] : List ID32)).map iC) from rfl) ?_
  refine yC (rows := ([] : List ID32).map iC) qP ?_
  refine yv (sz := 34) (e := 90) ?_
  refine zN qP (show own 34 90 none 0 0 [] = own 34 90 none 0 0 ((([] : List Wnt)).map wnC) from rfl) ?_
  refine yC (rows := ([] : List Wnt).map wnC) qP ?_
  exact x8 rfl ag78 rfl qN rfl ⟨none, 0, 0, none, 0, 0, none, 0, 0, rfl, rfl, rfl, rfl, rfl, rfl⟩ qD qF
 ·try simp only [dq] at h17
  have hk : (pthF os tb F x fs0).2 = true := by simpa using h17
  refine zp (z4 (z6 (z8 (z5 rfl rfl (y6 rfl rfl ?_)))))
  refine zh rfl fo151_3 rfl ?_
  refine zt rfl ag78 rfl qN ?_
  refine zL ag78 rfl rfl qL qO qU qW ?_
  refine z9 rfl rfl (z7 (z4 (zm ?_)))
  rw [frO_t hk, frE_t hk]
  refine yC (rows := ((pthF os tb F x fs0).1.ps).map iC) qP ?_
  refine yC (rows := ((pthF os tb F x fs0).1.ws).map wnC) qP ?_
  refine yC (rows := ((pthF os tb F x fs0).1.rs).map iC) qP ?_
  exact x8 rfl ag78 rfl qN rfl ⟨pa, pn, pc, wa, wn, wc, ra, rn, rc, rfl, hp, hw, hr, rfl, rfl⟩ qD qF
theorem fbytes_spec {pa wa ra : Option Addr} {pn pc wn wc rn rc : Nat} {ws : List Wnt} (hwn : wn ≤ 100000) (hok : WOk ws) : Spec Tryz.prog 78 [.agg #[.slice pa pn pc, .slice wa wn wc, .slice ra rn rc]] [rsl 34 wa wn wc ((ws).map wnC)] [] (fun v D' M' => v = .int .i64 (sumW ws wn) ∧ D' = [] ∧ M' = []) := by
 refine zG (n := 19) Tryz.func78 ?_
 intro σ D M
 refine yP (a := wa) (len := wn) (cap := wc) (rows := ws.map wnC) qM (fun hol hoc => ?_)
 rw [List.length_map] at hol
 refine z6 (z8 (yA rfl rfl rfl (fun b1 => ?_)))
 refine z9 rfl rfl (z7 (z4 (z6 (z8 (z9 rfl rfl (z7 (z4 (z6 (z6 (z8 (zh rfl fo78_1 rfl ?_)))))))))))
 refine zi rfl sc76 rfl qC ?_
 refine y3 rfl xg rfl (z5 rfl rfl (z7 (z4 (zv (zY (fun K' D' M' μ => ∃ (i : Nat), (i ≤ wn) ∧ K' = [(9, .int .i64 (i : Int)), (3, .int .i64 (sumW ws i))] ∧ D' = [] ∧ M' = [] ∧ μ = wn - i) (.cons (t := 7) rfl <| .cons (t := 8) rfl <| za _) (⟨0, Nat.zero_le _, rfl, rfl, rfl, rfl⟩) (.cons (t := 9) rfl <| .cons (t := 3) rfl <| za _) qD qS ?_)))))
 rintro K1 D1 M1 m1 ⟨i, hi, rfl, rfl, rfl, rfl⟩
 refine zC qA qA qA ?_
 refine z6 (z8 (zW rfl rfl rfl (z7 (z4 (z6 (zq rfl (fun h10 => ?_) (fun h10 => ?_)))))))
 ·try simp only [dq] at h10
  refine zp (z4 (z6 (zv (z6 ?_))))
  have hgi : ws[i]? = some (gd ws i) := zH jO
  obtain ⟨w, hw_⟩ : ∃ z, z = gd ws i := ⟨_, rfl⟩
  rw [← hw_] at hgi
  clear hw_
  have hgr : (ws.map wnC)[i]? = some (wnC w) := zS hgi
  have hw3 := wnC_len w
  have hsi := sumW_in hok i jO
  have hwo := hok w (List.mem_of_getElem? hgi)
  refine z8 (L.idx (i := i) rfl xg sz90 rfl rfl qM jR qG (fun b11 o11 => ?_))
  refine zt rfl ag90 rfl (x9 qM hw3) ?_
  refine zR rfl ze90 (fun b5 => ?_)
  refine zL ag90 rfl rfl qL qO qU qW ?_
  refine z7 (y8 (A := cl b5 90 (wnC w)) qP ?_)
  refine z4 (z8 (z5 rfl rfl (zh rfl fo90_2 rfl ?_)))
  refine zi rfl sc3 rfl (Cells.ofF qM (at_w2 w)) ?_
  refine zF rfl rfl rfl jO ?_
  refine z9 rfl rfl (z7 (zM (z4 (z8 (zF rfl rfl rfl jO ?_)))))
  refine z5 rfl rfl (z7 (z4 ?_))
  rw [← sumW_s hgi]
  exact zT ⟨i + 1, jO, rfl, rfl, rfl, rfl⟩ qI (.cons (t := 9) rfl <| .cons (t := 3) rfl <| za _) (.cons (t := 7) rfl <| .cons (t := 8) rfl <| za _) qD qD qF
 ·try simp only [dq] at h10
  obtain rfl : wn = i := by omega
  exact zU (zr (zr (zV (z4 (z6 (z8 (z5 rfl rfl (z9 rfl rfl (z7 (z4 (zm (zB rfl rfl ⟨rfl, rfl, rfl⟩ qD qF))))))))))))
end Cv
