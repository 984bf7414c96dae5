/-
  The walks: paths.
-/
import Derived.Test.YtahkbpiinbepcaaGreatLM22
import Derived.Test.YtahkbpiinbepcaaGreatProg
import Derived.KernelRfl
set_option linter.unusedVariables false
set_option linter.unusedSimpArgs false
set_option linter.unusedSectionVars false
set_option maxHeartbeats 400000
set_option maxRecDepth 10000
namespace Cv
open Go Go.Proofs
/-! ## the front of a path: the plain model -/
structure FS where
  sn : List ID32
  ps : List ID32
  ws : List Wnt
  rs : List ID32
def lsF (g : ID32 → FS → FS × Bool) : List ID32 → FS → FS × Bool
  | [], s => (s, true)
  | r :: l, s => if (g r s).2 = true then lsF g l (g r s).1 else ((g r s).1, false)
def finF (x : ID32) (s : FS) (w : List Wnt × Bool) : FS × Bool := (⟨s.sn, s.ps ++ [x], w.1, if w.2 = true then s.rs ++ [x] else s.rs⟩, decide (s.ps.length + 1 ≤ 32))
def knF (os : List Ob) (x : ID32) (p : Pt) (r : FS × Bool) : FS × Bool := if r.2 = true then finF x r.1 (ptF os 3 (-1) p r.1.ws) else r
theorem knF_no {os : List Ob} {x : ID32} {p : Pt} {s : FS} : knF os x p (s, false) = (s, false) := rfl
theorem knF_yes {os : List Ob} {x : ID32} {p : Pt} {s : FS} : knF os x p (s, true) = finF x s (ptF os 3 (-1) p s.ws) := rfl
def pthF (os : List Ob) (tb : ID32 → Bool) : Nat → ID32 → FS → FS × Bool
  | 0, _, s => (s, true)
  | f + 1, x, s =>
    if x ∈ s.sn then (s, true)
    else if tb x = true then (⟨s.sn ++ [x], s.ps, s.ws, s.rs⟩, true)
    else if (lkR os x).2.2 = true then knF os x (lkR os x).1 (lsF (pthF os tb f) (lkR os x).2.1 ⟨s.sn ++ [x], s.ps, s.ws, s.rs⟩)
    else (⟨s.sn ++ [x], s.ps ++ [x], ndW os s.ws (3, x, 294), s.rs⟩, decide (s.ps.length + 1 ≤ 32))
theorem fp_s {os : List Ob} {tb : ID32 → Bool} {f : Nat} {x : ID32} {s : FS} (h : x ∈ s.sn) : pthF os tb (f + 1) x s = (s, true) := by rw [pthF, if_pos h]
theorem fp_t {os : List Ob} {tb : ID32 → Bool} {f : Nat} {x : ID32} {s : FS} (h : x ∉ s.sn) (k : tb x = true) : pthF os tb (f + 1) x s = (⟨s.sn ++ [x], s.ps, s.ws, s.rs⟩, true) := by rw [pthF, if_neg h, if_pos k]
theorem fp_k {os : List Ob} {tb : ID32 → Bool} {f : Nat} {x : ID32} {s : FS} (h : x ∉ s.sn) (k : tb x = false) (l : (lkR os x).2.2 = true) : pthF os tb (f + 1) x s = knF os x (lkR os x).1 (lsF (pthF os tb f) (lkR os x).2.1 ⟨s.sn ++ [x], s.ps, s.ws, s.rs⟩) := by rw [pthF, if_neg h, if_neg (by rw [k]; decide), if_pos l]
theorem fp_u {os : List Ob} {tb : ID32 → Bool} {f : Nat} {x : ID32} {s : FS} (h : x ∉ s.sn) (k : tb x = false) (l : (lkR os x).2.2 = false) : pthF os tb (f + 1) x s = (⟨s.sn ++ [x], s.ps ++ [x], ndW os s.ws (3, x, 294), s.rs⟩, decide (s.ps.length + 1 ≤ 32)) := by rw [pthF, if_neg h, if_neg (by rw [k]; decide), if_neg (by rw [l]; decide)]
theorem ndB_lk {os : List Ob} {x : ID32} {m : Int} (h : ndB os (3, x, m) = true) : lkR os x = ((parI (getO os x).2.2).1, (parI (getO os x).2.2).2.1, decide ((parI (getO os x).2.2).2.2 = 0)) := by
  have := of_decide_eq_true h
  exact lkR_yes this.1 this.2
theorem ndB_no {os : List Ob} {x : ID32} {m : Int} (h : ndB os (3, x, m) = false) : lkR os x = (zP, [], false) := by
  have := of_decide_eq_false h
  refine lkR_no ?_
  by_cases c : getE os x = 0
  · exact .inr fun q => this ⟨c, q⟩
  · exact .inl c
theorem lk_ndB {os : List Ob} {x : ID32} {m : Int} (h : (lkR os x).2.2 = true) : ndB os (3, x, m) = true := by
  cases e : ndB os (3, x, m) with
  | true => rfl
  | false => rw [ndB_no e] at h; cases h
def PDp (os : List Ob) : Nat → ID32 → Prop
  | 0, _ => False
  | f + 1, x => (lkR os x).2.2 = true → ∀ r ∈ (lkR os x).2.1, PDp os f r
structure MlR (ml : SnM) (sn : List ID32) (C : Nat) : Prop where
  ky : ml.map Prod.fst = sn
  lo : ∀ x ∈ sn, 1 ≤ val0 ml x
  hi : ∀ x, 0 ≤ val0 ml x ∧ val0 ml x ≤ C
theorem MlR.start : MlR [] [] 0 := ⟨rfl, fun x h => (by cases h), fun x => ⟨Int.le_refl _, Int.le_refl _⟩⟩
theorem MlR.seen {ml : SnM} {sn : List ID32} {C : Nat} (h : MlR ml sn C) {x : ID32} : 1 < val0 ml x + 1 ↔ x ∈ sn := by
  constructor
  · intro e; rw [← h.ky]; exact RcI.isOld e
  · intro e; have := h.lo x e; omega
theorem MlR.old {ml : SnM} {sn : List ID32} {C : Nat} (h : MlR ml sn C) {x : ID32} (e : x ∈ sn) : MlR (put ml x (val0 ml x + 1)) sn (C + 1) := by
  refine ⟨by rw [keys_put, if_pos (by rw [h.ky]; exact e)]; exact h.ky, fun y hy => ?_, fun y => ?_⟩
  · rw [val0_put]; split
    · have := h.hi x; omega
    · exact h.lo y hy
  · have := h.hi x; have := h.hi y
    rw [val0_put]; split <;> omega
theorem MlR.new {ml : SnM} {sn : List ID32} {C : Nat} (h : MlR ml sn C) {x : ID32} (e : x ∉ sn) : MlR (put ml x (val0 ml x + 1)) (sn ++ [x]) (C + 1) := by
  refine ⟨by rw [keys_put, if_neg (by rw [h.ky]; exact e), h.ky], fun y hy => ?_, fun y => ?_⟩
  · rw [val0_put]; split
    · have := h.hi x; omega
    · rename_i c
      rcases List.mem_append.1 hy with q | q
      · exact h.lo y q
      · exact absurd (List.mem_singleton.1 q) c
  · have := h.hi x; have := h.hi y
    rw [val0_put]; split <;> omega
theorem MlR.less {os : List Ob} {ml : SnM} {sn : List ID32} {C : Nat} (h : MlR ml sn C) {x : ID32} (e : x ∉ sn) (k : (lkR os x).2.2 = true) : unk os (put ml x (val0 ml x + 1)) + 1 ≤ unk os ml := by
  obtain ⟨o, ho, he⟩ := lkR_mem k
  exact unk_lt ho he (by rw [h.ky]; exact e)
structure FSok (s : FS) : Prop where
  rs : s.rs.length ≤ s.ps.length
  ws : s.ws.length ≤ 730 * s.ps.length
structure FRok (r : FS × Bool) : Prop where
  ok : FSok r.1
  le : r.1.ps.length ≤ 33
  go : r.2 = true → r.1.ps.length ≤ 32
theorem finF_ok {os : List Ob} {x : ID32} {p : Pt} {s : FS} (h : FSok s) (k : s.ps.length ≤ 32) : FRok (finF x s (ptF os 3 (-1) p s.ws)) := by
  have h1 := ptF_len os 3 (-1) p s.ws
  have h2 := h.rs
  have h3 := h.ws
  have h9 : 9 ^ 3 = 729 := by decide
  unfold finF
  refine ⟨⟨?_, ?_⟩, ?_, fun q => ?_⟩
  · dsimp only; split
    · rw [List.length_append, List.length_append, List.length_singleton]; omega
    · rw [List.length_append]; omega
  · dsimp only; rw [List.length_append, List.length_singleton]; omega
  · dsimp only; rw [List.length_append, List.length_singleton]; omega
  · have := of_decide_eq_true q
    dsimp only; rw [List.length_append, List.length_singleton]; omega
theorem lsF_ok {g : ID32 → FS → FS × Bool} (hg : ∀ x s, FSok s → s.ps.length ≤ 32 → FRok (g x s)) : ∀ (l : List ID32) (s : FS), FSok s → s.ps.length ≤ 32 → FRok (lsF g l s)
  | [], s, h, k => ⟨h, by show s.ps.length ≤ 33; omega, fun _ => k⟩
  | r :: l, s, h, k => by
    have a := hg r s h k
    rw [lsF]
    split
    · rename_i c; exact lsF_ok hg l _ a.ok (a.go c)
    · exact ⟨a.ok, a.le, fun q => by cases q⟩
theorem pth_ok (os : List Ob) (tb : ID32 → Bool) : ∀ (f : Nat) (x : ID32) (s : FS), FSok s → s.ps.length ≤ 32 → FRok (pthF os tb f x s)
  | 0, x, s, h, k => by rw [pthF]; exact ⟨h, by show s.ps.length ≤ 33; omega, fun _ => k⟩
  | f + 1, x, s, h, k => by
    rw [pthF]
    split
    · exact ⟨h, by show s.ps.length ≤ 33; omega, fun _ => k⟩
    · split
      · exact ⟨⟨h.rs, h.ws⟩, by show s.ps.length ≤ 33; omega, fun _ => k⟩
      · split
        · have a := lsF_ok (fun x s => pth_ok os tb f x s) (lkR os x).2.1 ⟨s.sn ++ [x], s.ps, s.ws, s.rs⟩ ⟨h.rs, h.ws⟩ k
          unfold knF
          split
          · rename_i c; exact finF_ok a.ok (a.go c)
          · exact a
        · have h1 := ndW_len os s.ws (3, x, 294)
          have h2 := h.rs
          have h3 := h.ws
          refine ⟨⟨?_, ?_⟩, ?_, fun q => ?_⟩
          · dsimp only; rw [List.length_append, List.length_singleton]; omega
          · dsimp only; rw [List.length_append, List.length_singleton]; omega
          · dsimp only; rw [List.length_append, List.length_singleton]; omega
          · have := of_decide_eq_true q
            dsimp only; rw [List.length_append, List.length_singleton]; omega
theorem ls_drop {g : ID32 → FS → FS × Bool} {l : List ID32} {i : Nat} {r : ID32} {s : FS} (h : l[i]? = some r) : lsF g (l.drop i) s = if (g r s).2 = true then lsF g (l.drop (i + 1)) (g r s).1 else ((g r s).1, false) := by
  have hi := (List.getElem?_eq_some_iff.1 h).1
  have he : l[i] = r := (List.getElem?_eq_some_iff.1 h).2
  rw [List.drop_eq_getElem_cons hi, he, lsF]
theorem ls_end {g : ID32 → FS → FS × Bool} {l : List ID32} {i : Nat} {s : FS} (h : l.length ≤ i) : lsF g (l.drop i) s = (s, true) := by rw [List.drop_eq_nil_of_le h]; rfl
theorem FSok.lens {s : FS} (h : FSok s) (k : s.ps.length ≤ 33) : s.rs.length ≤ 33 ∧ s.ws.length ≤ 24090 := by have := h.rs; have := h.ws; omega
theorem fo151_2 : Fo Tryz.prog 151 2 2 := fun a w => by kernel_rfl
theorem fo151_1 : Fo Tryz.prog 151 1 1 := fun a w => by kernel_rfl
theorem sc81 : Sc Tryz.prog 81 := fun w => ⟨by kernel_rfl, by kernel_rfl⟩
theorem fo78_0 : Fo Tryz.prog 78 0 0 := fun a w => by kernel_rfl
theorem fo78_2 : Fo Tryz.prog 78 2 2 := fun a w => by kernel_rfl
theorem path_step {a pa wa ra : Option Addr} {n c bw sm pn pc wn wc rn rc f ft C : Nat} {cs : List Value} {d1 d2 : Asn} {os : List Ob} {tb : ID32 → Bool} {s : FS} {ml : SnM} {x : ID32} (hn : n ≤ 1000000) (hs : Shf os) (hT : ∀ y, (lkR os y).2.2 = true → PtD os 3 (-1) (lkR os y).1) (TH : ∀ y : ID32, Spec Tryz.prog ft (.agg (iC y).toArray :: cs) [d1, d2] [] (fun u D' M' => u = .bool (tb y) ∧ D' = [] ∧ M' = [])) (hd : PDp os (f + 1) x) (hml : MlR ml s.sn C) (hC : C + 9 * unk os ml ≤ 1000000000) (hok : FSok s) (hp32 : s.ps.length ≤ 32) (hpn : s.ps.length = pn) (hwn : s.ws.length = wn) (hrn : s.rs.length = rn) (IH : ∀ (pa : Option Addr) (pn pc : Nat) (wa : Option Addr) (wn wc : Nat) (ra : Option Addr) (rn rc : Nat) (ml : SnM) (C : Nat) (s : FS) (x : ID32), PDp os f x → MlR ml s.sn C → C + 9 * unk os ml ≤ 1000000000 → FSok s → s.ps.length ≤ 32 → s.ps.length = pn → s.ws.length = wn → s.rs.length = rn → Spec Tryz.prog 79 [.pointer (some ⟨bw, 0, none⟩), .agg (iC x).toArray] [rsl 34 a n c (os.map obC), d1, d2] [cl bw 151 (wkC (.iface 26 (.agg #[.slice a n c])) (fnV ft cs) sm pa wa ra pn pc wn wc rn rc), mp sm aK iK ml, own 32 38 pa pn pc ((s.ps).map iC), own 34 90 wa wn wc ((s.ws).map wnC), own 32 38 ra rn rc ((s.rs).map iC)] (fun v D' M' => ∃ (pa2 : Option Addr) (pn2 pc2 : Nat) (wa2 : Option Addr) (wn2 wc2 : Nat) (ra2 : Option Addr) (rn2 rc2 : Nat) (ml2 : SnM) (C2 : Nat), v = .bool (pthF os tb f x s).2 ∧ ((pthF os tb f x s).1.ps.length = pn2) ∧ ((pthF os tb f x s).1.ws.length = wn2) ∧ ((pthF os tb f x s).1.rs.length = rn2) ∧ (MlR ml2 (pthF os tb f x s).1.sn C2) ∧ (C2 + 9 * unk os ml2 ≤ C + 9 * unk os ml + 1) ∧ D' = [] ∧ M' = [cl bw 151 (wkC (.iface 26 (.agg #[.slice a n c])) (fnV ft cs) sm pa2 wa2 ra2 pn2 pc2 wn2 wc2 rn2 rc2), mp sm aK iK ml2, own 32 38 pa2 pn2 pc2 (((pthF os tb f x s).1.ps).map iC), own 34 90 wa2 wn2 wc2 (((pthF os tb f x s).1.ws).map wnC), own 32 38 ra2 rn2 rc2 (((pthF os tb f x s).1.rs).map iC)])) : Spec Tryz.prog 79 [.pointer (some ⟨bw, 0, none⟩), .agg (iC x).toArray] [rsl 34 a n c (os.map obC), d1, d2] [cl bw 151 (wkC (.iface 26 (.agg #[.slice a n c])) (fnV ft cs) sm pa wa ra pn pc wn wc rn rc), mp sm aK iK ml, own 32 38 pa pn pc ((s.ps).map iC), own 34 90 wa wn wc ((s.ws).map wnC), own 32 38 ra rn rc ((s.rs).map iC)] (fun v D' M' => ∃ (pa2 : Option Addr) (pn2 pc2 : Nat) (wa2 : Option Addr) (wn2 wc2 : Nat) (ra2 : Option Addr) (rn2 rc2 : Nat) (ml2 : SnM) (C2 : Nat), v = .bool (pthF os tb (f + 1) x s).2 ∧ ((pthF os tb (f + 1) x s).1.ps.length = pn2) ∧ ((pthF os tb (f + 1) x s).1.ws.length = wn2) ∧ ((pthF os tb (f + 1) x s).1.rs.length = rn2) ∧ (MlR ml2 (pthF os tb (f + 1) x s).1.sn C2) ∧ (C2 + 9 * unk os ml2 ≤ C + 9 * unk os ml + 1) ∧ D' = [] ∧ M' = [cl bw 151 (wkC (.iface 26 (.agg #[.slice a n c])) (fnV ft cs) sm pa2 wa2 ra2 pn2 pc2 wn2 wc2 rn2 rc2), mp sm aK iK ml2, own 32 38 pa2 pn2 pc2 (((pthF os tb (f + 1) x s).1.ps).map iC), own 34 90 wa2 wn2 wc2 (((pthF os tb (f + 1) x s).1.ws).map wnC), own 32 38 ra2 rn2 rc2 (((pthF os tb (f + 1) x s).1.rs).map iC)]) := by
 refine zI (n := 135) Tryz.func79 ?_
 intro σ D M
 have hx2 := x.2
 have hx3 := zX x
 have hv0 := hml.hi x
 have hlen := hok.lens jO
 have huk := unk_le (os := os) (ml := ml) (k := x) (v := val0 ml x + 1)
 refine z6 (z8 (yt rfl rfl rfl (fun b3 => ?_)))
 refine z9 rfl rfl (z7 (yf (A := cl b3 38 (iC x)) qP ?_))
 refine z4 (z6 (z6 (yj (fun K' D' M' => K' = [] ∧ D' = [] ∧ M' = [cl bw 151 (wkC (.iface 26 (.agg #[.slice a n c])) (fnV ft cs) sm pa wa ra pn pc wn wc rn rc), mp sm aK iK (put ml x (val0 ml x + 1))]) (M0 := [cl bw 151 (wkC (.iface 26 (.agg #[.slice a n c])) (fnV ft cs) sm pa wa ra pn pc wn wc rn rc), mp sm aK iK ml]) (.cons (t := 0) rfl <| .cons (t := 3) rfl <| za _) qS ?_ ?_)))
 ·skip
  refine yy (clsL [1, 1, 1, 2, 1, 2, 1, 2, 1, 2]) qk ?_
  refine ze 0 rfl rfl (z5 rfl rfl (zd (xg (i := 1) rfl rfl qk qk qk rfl qD rfl ?_)))
  refine ze 2 rfl rfl (zg rfl fo151_2 rfl ?_)
  refine zd (ze 4 rfl rfl (zp rfl zD rfl qN ?_))
  refine zd (zt 3 rfl (zi rfl sc64 rfl qC ?_))
  refine zq rfl qD ?_
  refine yV (is := [5, 7]) qk jD (yp rfl ?_ <| yp rfl ?_ <| yW) 
  ·skip
   refine L.lookup1 (kenc := aK) (venc := iK) (l := ml) (k := x) rfl Tryz.underlying64 (keyT_arr xj yE sc5) zv3 rfl rfl qM ?_
   refine zv (t := 16) (u := .int .i64 (val0 ml x)) rfl (by unfold val0; cases look ml x <;> rfl) ?_
   refine zq rfl qD ?_
   refine ze 6 rfl rfl (zH rfl rfl rfl jO ?_)
   refine zd (zt 7 rfl (L.mapEntry (kenc := aK) (venc := iK) (l := ml) (k := x) (z0 := 0) rfl Tryz.underlying64 (keyT_arr xj yE sc5) zv3 rfl rfl qP (fun mt => ?_)))
   refine zq rfl qD ?_
   refine ze 8 rfl rfl (zV rfl rfl rfl (zd (zt 9 rfl (L.entryStore (kenc := aK) (venc := iK) (l := Cv.put ml x ((look ml x).getD 0)) (k := x) (v := val0 ml x + 1) rfl rfl rfl rfl qP ?_))))
   rw [put_put]
   refine zq rfl qD ?_
   refine y3 qk ?_
   exact z4 (zF ⟨rfl, rfl, rfl⟩ (za _) (.cons (t := 0) rfl <| .cons (t := 3) rfl <| za _) qD qD qF)
  ·skip
   refine L.mapEntry (kenc := aK) (venc := iK) (l := ml) (k := x) (z0 := 0) rfl Tryz.underlying64 (keyT_arr xj yE sc5) zv3 rfl rfl qP (fun mt => ?_)
   refine zq rfl qD ?_
   refine ze 8 rfl rfl (zV rfl rfl rfl (zd (zt 5 rfl (L.lookup1E (kenc := aK) (venc := iK) (l := Cv.put ml x ((look ml x).getD 0)) (k := x) rfl Tryz.underlying64 (keyT_arr xj yE sc5) zv3 rfl rfl qM ?_))))
   refine zv (t := 16) (u := .int .i64 (val0 ml x)) rfl (by rw [look_put, if_pos rfl]; rfl) ?_
   refine zq rfl qD ?_
   refine ze 6 rfl rfl (zH rfl rfl rfl jO ?_)
   refine zd (zt 9 rfl (L.entryStore (kenc := aK) (venc := iK) (l := Cv.put ml x ((look ml x).getD 0)) (k := x) (v := val0 ml x + 1) rfl rfl rfl rfl qP ?_))
   rw [put_put]
   refine zq rfl qD ?_
   refine y3 qk ?_
   exact z4 (zF ⟨rfl, rfl, rfl⟩ (za _) (.cons (t := 0) rfl <| .cons (t := 3) rfl <| za _) qD qD qF)
 rintro _ _ _ ⟨rfl, rfl, rfl⟩
 refine zE qA qA qA ?_
 refine z4 (z6 (yB qk qk (z5 rfl rfl (yi rfl rfl ?_))))
 refine zg rfl fo151_2 rfl ?_
 refine zi rfl sc64 rfl qC ?_
 refine zp rfl zD rfl qN ?_
 refine L.lookup1 (kenc := aK) (venc := iK) (l := (put ml x (val0 ml x + 1))) (k := x) rfl Tryz.underlying64 (keyT_arr xj yE sc5) zv3 rfl rfl qM ?_
 refine zv (t := 25) (u := .int .i64 (val0 ml x + 1)) rfl (by rw [look_put, if_pos rfl]; rfl) ?_
 refine yq rfl rfl rfl (yx (z4 (zo rfl (fun h26 => ?_) (fun h26 => ?_))))
 ·try simp only [dq] at h26
  have hx : x ∈ s.sn := hml.seen.1 h26
  refine z6 (z8 (z9 rfl rfl (z7 (z4 (zj (zx ?_))))))
  rw [fp_s hx]
  exact zA rfl rfl ⟨_, _, _, _, _, _, _, _, _, _, C + 1, rfl, hpn, hwn, hrn, hml.old hx, jO, rfl, rfl⟩ qD qF
 ·try simp only [dq] at h26
  have hx : x ∉ s.sn := fun q => h26 (hml.seen.2 q)
  refine zm (z4 (z6 (z6 (yB qk qk (z5 rfl rfl (yi rfl rfl ?_))))))
  refine zg rfl fo151_1 rfl ?_
  refine zi rfl sc81 rfl qC ?_
  refine zp rfl zD rfl qN ?_
  refine xi rfl rfl (ev1 rfl) qD qS (TH x) jF ?_
  refine yx (z4 (zo rfl (fun h32 => ?_) (fun h32 => ?_)))
  ·try simp only [dq] at h32
   have htb : tb x = true := h32
   refine z6 (z8 (z9 rfl rfl (z7 (z4 (zj (zx ?_))))))
   rw [fp_t hx htb]
   exact zA rfl rfl ⟨_, _, _, _, _, _, _, _, _, _, C + 1, rfl, hpn, hwn, hrn, hml.new hx, jO, rfl, rfl⟩ qD qF
  ·try simp only [dq] at h32
   have htb : tb x = false := h32
   refine zm (z4 (z6 (z8 (z5 rfl rfl (zp rfl zD rfl qN ?_)))))
   refine ye rfl bu90 (zw rfl rfl rfl <| ym rfl rfl (by first | with_reducible assumption | (simp; done) | (simp only [List.length_map]; with_reducible assumption) | (simp [*]; done) | rfl) (Nat.le_of_ble_eq_true rfl) qR <| zw rfl rfl rfl <| zB (out := []) rfl) ?_
   refine zC rfl (ev2 rfl rfl) qD qS (need_spec (os := os) (ws := s.ws) (x := (3, x, 294)) hn hs hwn jO) ?_
   rintro _ _ _ ⟨wa2, wn2, wc2, rfl, hw2, rfl, rfl⟩
   refine zy qA qA ?_
   obtain ⟨o, ho⟩ : ∃ o, o = getO os x := ⟨_, rfl⟩
   have hos := hs.get x
   rw [← ho] at hos ⊢
   have ho33 := obC_len o
   have ho32 := o.2.1.2
   refine z5 rfl rfl (zV rfl rfl rfl (zV rfl rfl rfl (zL rfl ze45 (fun b5 => ?_))))
   refine zz ag45 rfl rfl qL qO qU qW ?_
   refine z9 rfl rfl (z7 (yf (A := cl b5 45 (obC o)) qP ?_))
   refine z4 (z6 (z6 (z8 (z5 rfl rfl (yZ rfl rfl (z7 (z4 (zo rfl (fun h41 => ?_) (fun h41 => ?_)))))))))
   ·try simp only [dq] at h41
    have hB : ndB os (3, x, 294) = false := by simpa using h41
    have hlk : (lkR os x).2.2 = false := by rw [ndB_no hB]
    refine z6 (yj (fun K' D' M' => ∃ (pa6 : Option Addr) (pc6 : Nat), K' = [] ∧ D' = [] ∧ M' = [cl bw 151 (wkC (.iface 26 (.agg #[.slice a n c])) (fnV ft cs) sm pa6 wa2 ra (pn + 1) pc6 wn2 wc2 rn rc), own 32 38 pa6 (pn + 1) pc6 ((s.ps).map iC ++ [iC x ++ []])]) (M0 := [cl bw 151 (wkC (.iface 26 (.agg #[.slice a n c])) (fnV ft cs) sm pa wa2 ra pn pc wn2 wc2 rn rc), own 32 38 pa pn pc ((s.ps).map iC)]) (.cons (t := 0) rfl <| za _) qS ?_ ?_)
    ·skip
     refine yy (clsL [1, 1, 1, 1, 1, 2, 1, 2, 2, 1, 1, 1, 2]) qk ?_
     refine ze 0 rfl rfl (z5 rfl rfl (zd (ze 1 rfl rfl (z5 rfl rfl (zd (xg (i := 2) rfl rfl qk qk qk rfl qD rfl ?_))))))
     refine ze 3 rfl rfl (zg rfl fo151_3 rfl ?_)
     refine zd (ze 4 rfl rfl (zg rfl fo78_0 rfl ?_))
     refine zd (ze 6 rfl rfl (zp rfl zD rfl qN ?_))
     refine zd (yV (is := [5, 7]) qk jD (yp rfl ?_ <| yp rfl ?_ <| yW) )
     ·skip
      refine zi rfl sc30 rfl qC ?_
      refine zq rfl qD ?_
      refine zt 7 rfl (zZ rfl bs30 jD (ym rfl rfl (by first | with_reducible assumption | (simp; done) | (simp only [List.length_map]; with_reducible assumption) | (simp [*]; done) | rfl) (Nat.le_of_ble_eq_true rfl) qR <| zB (out := []) rfl) (fun b49 => ?_))
      refine zq rfl qD ?_
      refine zt 8 rfl (yz rfl zG el38 rfl rfl qP qM (by rw [List.append_nil]; exact hx3) (fun u hu => by rw [List.append_nil] at hu; exact one_iC u hu) qI qI (fun a50 c50 => ?_))
      refine zq rfl qD ?_
      refine xg (i := 9) rfl rfl qk qk qk rfl qD rfl ?_
      refine ze 10 rfl rfl (zg rfl fo151_3 rfl ?_)
      refine zd (ze 11 rfl rfl (zg rfl fo78_0 rfl ?_))
      refine zd (zt 12 rfl (y8 sc30 rfl rfl rfl qU qE ?_))
      refine zq rfl qD ?_
      refine y3 qk ?_
      exact z4 (zF ⟨_, _, rfl, rfl, rfl⟩ (za _) (.cons (t := 0) rfl <| za _) qD qD qF)
     ·skip
      refine zZ rfl bs30 jD (ym rfl rfl (by first | with_reducible assumption | (simp; done) | (simp only [List.length_map]; with_reducible assumption) | (simp [*]; done) | rfl) (Nat.le_of_ble_eq_true rfl) qR <| zB (out := []) rfl) (fun b49 => ?_)
      refine zq rfl qD ?_
      refine zt 5 rfl (zi rfl sc30 rfl qC ?_)
      refine zq rfl qD ?_
      refine zt 8 rfl (yz rfl zG el38 rfl rfl qP qM (by rw [List.append_nil]; exact hx3) (fun u hu => by rw [List.append_nil] at hu; exact one_iC u hu) qI qI (fun a50 c50 => ?_))
      refine zq rfl qD ?_
      refine xg (i := 9) rfl rfl qk qk qk rfl qD rfl ?_
      refine ze 10 rfl rfl (zg rfl fo151_3 rfl ?_)
      refine zd (ze 11 rfl rfl (zg rfl fo78_0 rfl ?_))
      refine zd (zt 12 rfl (y8 sc30 rfl rfl rfl qU qE ?_))
      refine zq rfl qD ?_
      refine y3 qk ?_
      exact z4 (zF ⟨_, _, rfl, rfl, rfl⟩ (za _) (.cons (t := 0) rfl <| za _) qD qD qF)
    rintro _ _ _ ⟨pa6, pc6, rfl, rfl, rfl⟩
    refine zE qA qA qA ?_
    refine zU qP (show own 32 38 pa6 (pn + 1) pc6 ((s.ps).map iC ++ [iC x ++ []]) = own 32 38 pa6 (pn + 1) pc6 ((s.ps ++ [x]).map iC) from by rw [List.map_append, List.append_nil]; rfl) ?_
    refine z4 (z6 (z8 (z5 rfl rfl (yi rfl rfl ?_))))
    refine zg rfl fo151_3 rfl ?_
    refine zg rfl fo78_0 rfl ?_
    refine zi rfl sc30 rfl qC ?_
    refine y1 rfl zG rfl (L.leI rfl rfl rfl (z9 rfl rfl (z7 (z4 (zj (zx ?_))))))
    rw [fp_u hx htb hlk]
    exact zA rfl rfl ⟨pa6, pn + 1, pc6, _, _, _, _, _, _, _, C + 1, congrArg Value.bool (decide_eq_decide.2 jO), (by rw [List.length_append, hpn]; rfl), hw2, hrn, hml.new hx, jO, rfl, rfl⟩ qD qF
   ·try simp only [dq] at h41
    have hB : ndB os (3, x, 294) = true := by simpa using h41
    rw [ndW_t hB] at hw2 ⊢
    refine zm (z4 (z6 (z8 (zg rfl fo45_2 rfl ?_))))
    refine zi rfl sc9 rfl qC ?_
    refine zC rfl (ev1 rfl) qD qS (iparse_spec (s := o.2.2) jO) ?_
    rintro _ _ _ ⟨qa, qn, qc, rfl, hqn, rfl, rfl⟩
    refine zy qA qA ?_
    have hql := parI_len o.2.2
    obtain ⟨W, hW⟩ : ∃ z, z = parI o.2.2 := ⟨_, rfl⟩
    rw [← hW] at hqn hql ⊢
    have hin := inC_len W.1 qa qn qc
    have hr32 := W.1.1.2
    refine z5 rfl rfl (zV rfl rfl rfl (zV rfl rfl rfl (zL rfl ze54 (fun b7 => ?_))))
    refine zz ag54 rfl rfl qL qO qU qW ?_
    refine z9 rfl rfl (z7 (yf (A := cl b7 54 (inC W.1 qa qn qc)) qP ?_))
    refine z4 (z6 (z6 (z8 (z5 rfl rfl (yJ rfl rfl rfl (z7 (z4 (zo rfl (fun h68 => ?_) (fun h68 => ?_)))))))))
    ·try simp only [dq] at h68
     have hlk : (lkR os x).2.2 = false := by rw [ndB_lk hB, ← ho, ← hW]; exact decide_eq_false h68
     refine z6 (yj (fun K' D' M' => ∃ (pa6 : Option Addr) (pc6 : Nat), K' = [] ∧ D' = [] ∧ M' = [cl bw 151 (wkC (.iface 26 (.agg #[.slice a n c])) (fnV ft cs) sm pa6 wa2 ra (pn + 1) pc6 wn2 wc2 rn rc), own 32 38 pa6 (pn + 1) pc6 ((s.ps).map iC ++ [iC x ++ []])]) (M0 := [cl bw 151 (wkC (.iface 26 (.agg #[.slice a n c])) (fnV ft cs) sm pa wa2 ra pn pc wn2 wc2 rn rc), own 32 38 pa pn pc ((s.ps).map iC)]) (.cons (t := 0) rfl <| za _) qS ?_ ?_)
     ·skip
      refine yy (clsL [1, 1, 1, 1, 1, 2, 1, 2, 2, 1, 1, 1, 2]) qk ?_
      refine ze 0 rfl rfl (z5 rfl rfl (zd (ze 1 rfl rfl (z5 rfl rfl (zd (xg (i := 2) rfl rfl qk qk qk rfl qD rfl ?_))))))
      refine ze 3 rfl rfl (zg rfl fo151_3 rfl ?_)
      refine zd (ze 4 rfl rfl (zg rfl fo78_0 rfl ?_))
      refine zd (ze 6 rfl rfl (zp rfl zD rfl qN ?_))
      refine zd (yV (is := [5, 7]) qk jD (yp rfl ?_ <| yp rfl ?_ <| yW) )
      ·skip
       refine zi rfl sc30 rfl qC ?_
       refine zq rfl qD ?_
       refine zt 7 rfl (zZ rfl bs30 jD (ym rfl rfl (by first | with_reducible assumption | (simp; done) | (simp only [List.length_map]; with_reducible assumption) | (simp [*]; done) | rfl) (Nat.le_of_ble_eq_true rfl) qR <| zB (out := []) rfl) (fun b76 => ?_))
       refine zq rfl qD ?_
       refine zt 8 rfl (yz rfl zG el38 rfl rfl qP qM (by rw [List.append_nil]; exact hx3) (fun u hu => by rw [List.append_nil] at hu; exact one_iC u hu) qI qI (fun a77 c77 => ?_))
       refine zq rfl qD ?_
       refine xg (i := 9) rfl rfl qk qk qk rfl qD rfl ?_
       refine ze 10 rfl rfl (zg rfl fo151_3 rfl ?_)
       refine zd (ze 11 rfl rfl (zg rfl fo78_0 rfl ?_))
       refine zd (zt 12 rfl (y8 sc30 rfl rfl rfl qU qE ?_))
       refine zq rfl qD ?_
       refine y3 qk ?_
       exact z4 (zF ⟨_, _, rfl, rfl, rfl⟩ (za _) (.cons (t := 0) rfl <| za _) qD qD qF)
      ·skip
       refine zZ rfl bs30 jD (ym rfl rfl (by first | with_reducible assumption | (simp; done) | (simp only [List.length_map]; with_reducible assumption) | (simp [*]; done) | rfl) (Nat.le_of_ble_eq_true rfl) qR <| zB (out := []) rfl) (fun b76 => ?_)
       refine zq rfl qD ?_
       refine zt 5 rfl (zi rfl sc30 rfl qC ?_)
       refine zq rfl qD ?_
       refine zt 8 rfl (yz rfl zG el38 rfl rfl qP qM (by rw [List.append_nil]; exact hx3) (fun u hu => by rw [List.append_nil] at hu; exact one_iC u hu) qI qI (fun a77 c77 => ?_))
       refine zq rfl qD ?_
       refine xg (i := 9) rfl rfl qk qk qk rfl qD rfl ?_
       refine ze 10 rfl rfl (zg rfl fo151_3 rfl ?_)
       refine zd (ze 11 rfl rfl (zg rfl fo78_0 rfl ?_))
       refine zd (zt 12 rfl (y8 sc30 rfl rfl rfl qU qE ?_))
       refine zq rfl qD ?_
       refine y3 qk ?_
       exact z4 (zF ⟨_, _, rfl, rfl, rfl⟩ (za _) (.cons (t := 0) rfl <| za _) qD qD qF)
     rintro _ _ _ ⟨pa6, pc6, rfl, rfl, rfl⟩
     refine zE qA qA qA ?_
     refine zU qP (show own 32 38 pa6 (pn + 1) pc6 ((s.ps).map iC ++ [iC x ++ []]) = own 32 38 pa6 (pn + 1) pc6 ((s.ps ++ [x]).map iC) from by rw [List.map_append, List.append_nil]; rfl) ?_
     refine z4 (z6 (z8 (z5 rfl rfl (yi rfl rfl ?_))))
     refine zg rfl fo151_3 rfl ?_
     refine zg rfl fo78_0 rfl ?_
     refine zi rfl sc30 rfl qC ?_
     refine y1 rfl zG rfl (L.leI rfl rfl rfl (z9 rfl rfl (z7 (z4 (zj (zx ?_))))))
     rw [fp_u hx htb hlk, ndW_t hB]
     exact zA rfl rfl ⟨pa6, pn + 1, pc6, _, _, _, _, _, _, _, C + 1, congrArg Value.bool (decide_eq_decide.2 jO), (by rw [List.length_append, hpn]; rfl), hw2, hrn, hml.new hx, jO, rfl, rfl⟩ qD qF
    ·try simp only [dq] at h68
     have hlk : lkR os x = (W.1, W.2.1, true) := by rw [ndB_lk hB, ← ho, ← hW, decide_eq_true (Decidable.not_not.1 h68)]
     have hlk2 : (lkR os x).2.2 = true := by rw [hlk]
     have hdr : ∀ r ∈ W.2.1, PDp os f r := by have := hd hlk2; rw [hlk] at this; exact this
     have hPT : PtD os 3 (-1) W.1 := by have := hT x hlk2; rw [hlk] at this; exact this
     have hle := hml.less hx hlk2
     have hmn := hml.new hx
     refine zm (z4 (z6 (z6 (z8 (zg rfl fo54_1 rfl ?_)))))
     refine zi rfl sc30 rfl qC ?_
     refine y1 rfl zG rfl (z5 rfl rfl (z7 (z4 (zu (zY (fun K' D' M' μ => ∃ (i : Nat) (pa4 : Option Addr) (pn4 pc4 : Nat) (wa4 : Option Addr) (wn4 wc4 : Nat) (ra4 : Option Addr) (rn4 rc4 : Nat) (ml4 : SnM) (C4 : Nat) (s4 : FS), (i ≤ qn ∧ lsF (pthF os tb f) W.2.1 ⟨s.sn ++ [x], s.ps, s.ws, s.rs⟩ = lsF (pthF os tb f) (W.2.1.drop i) s4 ∧ MlR ml4 s4.sn C4 ∧ C4 + 9 * unk os ml4 + 8 ≤ C + 9 * unk os ml + i ∧ FSok s4 ∧ s4.ps.length ≤ 32 ∧ s4.ps.length = pn4 ∧ s4.ws.length = wn4 ∧ s4.rs.length = rn4) ∧ K' = [(91, .int .i64 (i : Int))] ∧ D' = [] ∧ M' = [cl bw 151 (wkC (.iface 26 (.agg #[.slice a n c])) (fnV ft cs) sm pa4 wa4 ra4 pn4 pc4 wn4 wc4 rn4 rc4), mp sm aK iK ml4, own 32 38 pa4 pn4 pc4 ((s4.ps).map iC), own 34 90 wa4 wn4 wc4 ((s4.ws).map wnC), own 32 38 ra4 rn4 rc4 ((s4.rs).map iC)] ∧ μ = qn - i) (.cons (t := 0) rfl <| .cons (t := 3) rfl <| .cons (t := 7) rfl <| .cons (t := 89) rfl <| .cons (t := 90) rfl <| za _) (⟨0, pa, pn, pc, wa2, wn2, wc2, ra, rn, rc, (put ml x (val0 ml x + 1)), C + 1, ⟨s.sn ++ [x], s.ps, s.ws, s.rs⟩, ⟨Nat.zero_le _, rfl, hmn, by omega, ⟨hok.rs, hok.ws⟩, hp32, hpn, hw2, hrn⟩, rfl, rfl, rfl, rfl⟩) (.cons (t := 91) rfl <| za _) qD qS ?_)))))
     rintro K1 D1 M1 m1 ⟨i, pa4, pn4, pc4, wa4, wn4, wc4, ra4, rn4, rc4, ml4, C4, s4, ⟨hi, hI, hm4, hC4, hok4, hp324, hp4, hw4, hr4⟩, rfl, rfl, rfl, rfl⟩
     refine zE qA qA qA ?_
     refine z6 (z8 (zQ rfl rfl rfl (z7 (z4 (z6 (zo rfl (fun h92 => ?_) (fun h92 => ?_)))))))
     ·try simp only [dq] at h92
      refine zm (z4 (z6 (zu (z6 ?_))))
      have hgi : W.2.1[i]? = some (gd W.2.1 i) := zJ jO
      obtain ⟨r, hr_⟩ : ∃ y, y = gd W.2.1 i := ⟨_, rfl⟩
      rw [← hr_] at hgi
      clear hr_
      have hgr : (W.2.1.map iC)[i]? = some (iC r) := zS hgi
      have hrr2 := r.2
      have hrr3 := zX r
      refine z8 (yH (i := i) rfl zG zM rfl rfl qM jR qG (fun b93 o93 => ?_))
      refine zp rfl zD rfl (x9 qM hrr3) ?_
      refine zL rfl ze38 (fun b10 => ?_)
      refine zz zD rfl rfl qL qO qU qW ?_
      refine z7 (yf (A := cl b10 38 (iC r)) qP ?_)
      refine z4 (z6 ?_)
      have hIH := IH pa4 pn4 pc4 wa4 wn4 wc4 ra4 rn4 rc4 ml4 C4 s4 r (hdr r (List.mem_of_getElem? hgi)) hm4 jO hok4 hp324 hp4 hw4 hr4
      refine z8 (z5 rfl rfl (zp rfl zD rfl qN ?_))
      refine zC rfl (ev2 rfl rfl) qD qS (hIH) ?_
      rintro _ _ _ ⟨pa2, pn2, pc2, wa5, wn5, wc5, ra2, rn2, rc2, ml2, C2, rfl, hp2, hw5, hr2, hm2, hC2, rfl, rfl⟩
      refine zy qA qA ?_
      refine yZ rfl rfl (z7 (z4 (zo rfl (fun h98 => ?_) (fun h98 => ?_))))
      ·try simp only [dq] at h98
       have hg : (pthF os tb f r s4).2 = false := by simpa using h98
       rw [ls_drop hgi, if_neg (by rw [hg]; decide)] at hI
       refine z6 (z8 (z9 rfl rfl (z7 (z4 (zj (y2 (zx (zx (y2 (zx ?_))))))))))
       rw [fp_k hx htb hlk2, hlk]
       dsimp only
       rw [hI, knF_no]
       exact zA rfl rfl ⟨_, _, _, _, _, _, _, _, _, _, _, rfl, hp2, hw5, hr2, hm2, jO, rfl, rfl⟩ qD qF
      ·try simp only [dq] at h98
       have hg : (pthF os tb f r s4).2 = true := by simpa using h98
       rw [ls_drop hgi, if_pos hg] at hI
       refine zm (zK (z4 (z8 (zH rfl rfl rfl jO ?_))))
       refine z5 rfl rfl (z7 (z4 ?_))
       have hrk := pth_ok os tb f r s4 hok4 hp324
       exact zR ⟨i + 1, pa2, pn2, pc2, wa5, wn5, wc5, ra2, rn2, rc2, ml2, C2, (pthF os tb f r s4).1, ⟨by omega, hI, hm2, by omega, hrk.ok, hrk.go hg, hp2, hw5, hr2⟩, rfl, rfl, rfl, rfl⟩ qI (.cons (t := 91) rfl <| za _) (.cons (t := 0) rfl <| .cons (t := 3) rfl <| .cons (t := 7) rfl <| .cons (t := 89) rfl <| .cons (t := 90) rfl <| za _) qD qD qF
     ·try simp only [dq] at h92
      obtain rfl : qn = i := by omega
      rw [ls_end jO] at hI
      have hlen4 := hok4.lens jO
      refine zN (zr (zr (zO (z4 (z6 (yj (fun K' D' M' => ∃ (pa6 : Option Addr) (pc6 : Nat), K' = [] ∧ D' = [] ∧ M' = [cl bw 151 (wkC (.iface 26 (.agg #[.slice a n c])) (fnV ft cs) sm pa6 wa4 ra4 (pn4 + 1) pc6 wn4 wc4 rn4 rc4), own 32 38 pa6 (pn4 + 1) pc6 ((s4.ps).map iC ++ [iC x ++ []])]) (M0 := [cl bw 151 (wkC (.iface 26 (.agg #[.slice a n c])) (fnV ft cs) sm pa4 wa4 ra4 pn4 pc4 wn4 wc4 rn4 rc4), own 32 38 pa4 pn4 pc4 ((s4.ps).map iC)]) (.cons (t := 0) rfl <| .cons (t := 3) rfl <| .cons (t := 7) rfl <| za _) qS ?_ ?_))))))
      ·skip
       refine yy (clsL [1, 1, 1, 1, 1, 2, 1, 2, 2, 1, 1, 1, 2]) qk ?_
       refine ze 0 rfl rfl (z5 rfl rfl (zd (ze 1 rfl rfl (z5 rfl rfl (zd (xg (i := 2) rfl rfl qk qk qk rfl qD rfl ?_))))))
       refine ze 3 rfl rfl (zg rfl fo151_3 rfl ?_)
       refine zd (ze 4 rfl rfl (zg rfl fo78_0 rfl ?_))
       refine zd (ze 6 rfl rfl (zp rfl zD rfl qN ?_))
       refine zd (yV (is := [5, 7]) qk jD (yp rfl ?_ <| yp rfl ?_ <| yW) )
       ·skip
        refine zi rfl sc30 rfl qC ?_
        refine zq rfl qD ?_
        refine zt 7 rfl (zZ rfl bs30 jD (ym rfl rfl (by first | with_reducible assumption | (simp; done) | (simp only [List.length_map]; with_reducible assumption) | (simp [*]; done) | rfl) (Nat.le_of_ble_eq_true rfl) qR <| zB (out := []) rfl) (fun b107 => ?_))
        refine zq rfl qD ?_
        refine zt 8 rfl (yz rfl zG el38 rfl rfl qP qM (by rw [List.append_nil]; exact hx3) (fun u hu => by rw [List.append_nil] at hu; exact one_iC u hu) qI qI (fun a108 c108 => ?_))
        refine zq rfl qD ?_
        refine xg (i := 9) rfl rfl qk qk qk rfl qD rfl ?_
        refine ze 10 rfl rfl (zg rfl fo151_3 rfl ?_)
        refine zd (ze 11 rfl rfl (zg rfl fo78_0 rfl ?_))
        refine zd (zt 12 rfl (y8 sc30 rfl rfl rfl qU qE ?_))
        refine zq rfl qD ?_
        refine y3 qk ?_
        exact z4 (zF ⟨_, _, rfl, rfl, rfl⟩ (za _) (.cons (t := 0) rfl <| .cons (t := 3) rfl <| .cons (t := 7) rfl <| za _) qD qD qF)
       ·skip
        refine zZ rfl bs30 jD (ym rfl rfl (by first | with_reducible assumption | (simp; done) | (simp only [List.length_map]; with_reducible assumption) | (simp [*]; done) | rfl) (Nat.le_of_ble_eq_true rfl) qR <| zB (out := []) rfl) (fun b107 => ?_)
        refine zq rfl qD ?_
        refine zt 5 rfl (zi rfl sc30 rfl qC ?_)
        refine zq rfl qD ?_
        refine zt 8 rfl (yz rfl zG el38 rfl rfl qP qM (by rw [List.append_nil]; exact hx3) (fun u hu => by rw [List.append_nil] at hu; exact one_iC u hu) qI qI (fun a108 c108 => ?_))
        refine zq rfl qD ?_
        refine xg (i := 9) rfl rfl qk qk qk rfl qD rfl ?_
        refine ze 10 rfl rfl (zg rfl fo151_3 rfl ?_)
        refine zd (ze 11 rfl rfl (zg rfl fo78_0 rfl ?_))
        refine zd (zt 12 rfl (y8 sc30 rfl rfl rfl qU qE ?_))
        refine zq rfl qD ?_
        refine y3 qk ?_
        exact z4 (zF ⟨_, _, rfl, rfl, rfl⟩ (za _) (.cons (t := 0) rfl <| .cons (t := 3) rfl <| .cons (t := 7) rfl <| za _) qD qD qF)
      rintro _ _ _ ⟨pa6, pc6, rfl, rfl, rfl⟩
      refine zE qA qA qA ?_
      refine zU qP (show own 32 38 pa6 (pn4 + 1) pc6 ((s4.ps).map iC ++ [iC x ++ []]) = own 32 38 pa6 (pn4 + 1) pc6 ((s4.ps ++ [x]).map iC) from by rw [List.map_append, List.append_nil]; rfl) ?_
      refine z4 (z6 (z6 (z8 (z5 rfl rfl (zg rfl fo54_0 rfl ?_)))))
      refine zp rfl ag51 rfl (CellsN.ofF qM (at_pt _ _ _ _)) ?_
      refine zC rfl (ev3 rfl rfl rfl) qD qS (fpart_spec (os := os) hn hs 3 wa4 wn4 wc4 s4.ws (-1) W.1 jD hPT hw4 jO) ?_
      rintro _ _ _ ⟨wa7, wn7, wc7, rfl, hw7, rfl, rfl⟩
      refine zy qA qA ?_
      refine z7 (z4 (zo rfl (fun h115 => ?_) (fun h115 => ?_)))
      ·try simp only [dq] at h115
       refine yj (fun K' D' M' => ∃ (ra7 : Option Addr) (rc7 : Nat), K' = [] ∧ D' = [] ∧ M' = [cl bw 151 (wkC (.iface 26 (.agg #[.slice a n c])) (fnV ft cs) sm pa6 wa7 ra7 (pn4 + 1) pc6 wn7 wc7 (rn4 + 1) rc7), own 32 38 ra7 (rn4 + 1) rc7 ((s4.rs).map iC ++ [iC x ++ []])]) (M0 := [cl bw 151 (wkC (.iface 26 (.agg #[.slice a n c])) (fnV ft cs) sm pa6 wa7 ra4 (pn4 + 1) pc6 wn7 wc7 rn4 rc4), own 32 38 ra4 rn4 rc4 ((s4.rs).map iC)]) (.cons (t := 0) rfl <| za _) qS ?_ ?_
       ·skip
        refine yy (clsL [1, 1, 1, 1, 1, 2, 1, 2, 2, 1, 1, 1, 2]) qk ?_
        refine ze 0 rfl rfl (z5 rfl rfl (zd (ze 1 rfl rfl (z5 rfl rfl (zd (xg (i := 2) rfl rfl qk qk qk rfl qD rfl ?_))))))
        refine ze 3 rfl rfl (zg rfl fo151_3 rfl ?_)
        refine zd (ze 4 rfl rfl (zg rfl fo78_2 rfl ?_))
        refine zd (ze 6 rfl rfl (zp rfl zD rfl qN ?_))
        refine zd (yV (is := [5, 7]) qk jD (yp rfl ?_ <| yp rfl ?_ <| yW) )
        ·skip
         refine zi rfl sc30 rfl qC ?_
         refine zq rfl qD ?_
         refine zt 7 rfl (zZ rfl bs30 jD (ym rfl rfl (by first | with_reducible assumption | (simp; done) | (simp only [List.length_map]; with_reducible assumption) | (simp [*]; done) | rfl) (Nat.le_of_ble_eq_true rfl) qR <| zB (out := []) rfl) (fun b123 => ?_))
         refine zq rfl qD ?_
         refine zt 8 rfl (yz rfl zG el38 rfl rfl qP qM (by rw [List.append_nil]; exact hx3) (fun u hu => by rw [List.append_nil] at hu; exact one_iC u hu) qI qI (fun a124 c124 => ?_))
         refine zq rfl qD ?_
         refine xg (i := 9) rfl rfl qk qk qk rfl qD rfl ?_
         refine ze 10 rfl rfl (zg rfl fo151_3 rfl ?_)
         refine zd (ze 11 rfl rfl (zg rfl fo78_2 rfl ?_))
         refine zd (zt 12 rfl (y8 sc30 rfl rfl rfl qU qE ?_))
         refine zq rfl qD ?_
         refine y3 qk ?_
         exact z4 (zF ⟨_, _, rfl, rfl, rfl⟩ (za _) (.cons (t := 0) rfl <| za _) qD qD qF)
        ·skip
         refine zZ rfl bs30 jD (ym rfl rfl (by first | with_reducible assumption | (simp; done) | (simp only [List.length_map]; with_reducible assumption) | (simp [*]; done) | rfl) (Nat.le_of_ble_eq_true rfl) qR <| zB (out := []) rfl) (fun b123 => ?_)
         refine zq rfl qD ?_
         refine zt 5 rfl (zi rfl sc30 rfl qC ?_)
         refine zq rfl qD ?_
         refine zt 8 rfl (yz rfl zG el38 rfl rfl qP qM (by rw [List.append_nil]; exact hx3) (fun u hu => by rw [List.append_nil] at hu; exact one_iC u hu) qI qI (fun a124 c124 => ?_))
         refine zq rfl qD ?_
         refine xg (i := 9) rfl rfl qk qk qk rfl qD rfl ?_
         refine ze 10 rfl rfl (zg rfl fo151_3 rfl ?_)
         refine zd (ze 11 rfl rfl (zg rfl fo78_2 rfl ?_))
         refine zd (zt 12 rfl (y8 sc30 rfl rfl rfl qU qE ?_))
         refine zq rfl qD ?_
         refine y3 qk ?_
         exact z4 (zF ⟨_, _, rfl, rfl, rfl⟩ (za _) (.cons (t := 0) rfl <| za _) qD qD qF)
       rintro _ _ _ ⟨ra7, rc7, rfl, rfl, rfl⟩
       refine zE qA qA qA ?_
       refine zU qP (show own 32 38 ra7 (rn4 + 1) rc7 ((s4.rs).map iC ++ [iC x ++ []]) = own 32 38 ra7 (rn4 + 1) rc7 ((s4.rs ++ [x]).map iC) from by rw [List.map_append, List.append_nil]; rfl) ?_
       refine z4 (z6 (z8 (z5 rfl rfl (yi rfl rfl ?_))))
       refine zg rfl fo151_3 rfl ?_
       refine zg rfl fo78_0 rfl ?_
       refine zi rfl sc30 rfl qC ?_
       refine y1 rfl zG rfl (L.leI rfl rfl rfl (z9 rfl rfl (z7 (z4 (zj ?_)))))
       rw [fp_k hx htb hlk2, hlk]
       dsimp only
       rw [hI, knF_yes]
       unfold finF
       rw [if_pos h115]
       exact zA rfl rfl ⟨pa6, pn4 + 1, pc6, wa7, wn7, wc7, ra7, rn4 + 1, rc7, ml4, C4, congrArg Value.bool (decide_eq_decide.2 (by rw [hp4]; omega)), (by rw [List.length_append, hp4]; rfl), hw7, (by rw [List.length_append, hr4]; rfl), hm4, jO, rfl, rfl⟩ qD qF
      ·try simp only [dq] at h115
       refine zm (z4 (z6 (z8 (z5 rfl rfl (yi rfl rfl ?_)))))
       refine zg rfl fo151_3 rfl ?_
       refine zg rfl fo78_0 rfl ?_
       refine zi rfl sc30 rfl qC ?_
       refine y1 rfl zG rfl (L.leI rfl rfl rfl (z9 rfl rfl (z7 (z4 (zj ?_)))))
       rw [fp_k hx htb hlk2, hlk]
       dsimp only
       rw [hI, knF_yes]
       unfold finF
       rw [if_neg (by rw [h115]; decide)]
       exact zA rfl rfl ⟨pa6, pn4 + 1, pc6, wa7, wn7, wc7, _, _, _, ml4, C4, congrArg Value.bool (decide_eq_decide.2 (by rw [hp4]; omega)), (by rw [List.length_append, hp4]; rfl), hw7, hr4, hm4, jO, rfl, rfl⟩ qD qF
theorem path_spec {a : Option Addr} {n c bw sm ft : Nat} {cs : List Value} {d1 d2 : Asn} {os : List Ob} {tb : ID32 → Bool} (hn : n ≤ 1000000) (hs : Shf os) (hT : ∀ y, (lkR os y).2.2 = true → PtD os 3 (-1) (lkR os y).1) (TH : ∀ y : ID32, Spec Tryz.prog ft (.agg (iC y).toArray :: cs) [d1, d2] [] (fun u D' M' => u = .bool (tb y) ∧ D' = [] ∧ M' = [])) : ∀ (f : Nat), ∀ (pa : Option Addr) (pn pc : Nat) (wa : Option Addr) (wn wc : Nat) (ra : Option Addr) (rn rc : Nat) (ml : SnM) (C : Nat) (s : FS) (x : ID32), PDp os f x → MlR ml s.sn C → C + 9 * unk os ml ≤ 1000000000 → FSok s → s.ps.length ≤ 32 → s.ps.length = pn → s.ws.length = wn → s.rs.length = rn → Spec Tryz.prog 79 [.pointer (some ⟨bw, 0, none⟩), .agg (iC x).toArray] [rsl 34 a n c (os.map obC), d1, d2] [cl bw 151 (wkC (.iface 26 (.agg #[.slice a n c])) (fnV ft cs) sm pa wa ra pn pc wn wc rn rc), mp sm aK iK ml, own 32 38 pa pn pc ((s.ps).map iC), own 34 90 wa wn wc ((s.ws).map wnC), own 32 38 ra rn rc ((s.rs).map iC)] (fun v D' M' => ∃ (pa2 : Option Addr) (pn2 pc2 : Nat) (wa2 : Option Addr) (wn2 wc2 : Nat) (ra2 : Option Addr) (rn2 rc2 : Nat) (ml2 : SnM) (C2 : Nat), v = .bool (pthF os tb f x s).2 ∧ ((pthF os tb f x s).1.ps.length = pn2) ∧ ((pthF os tb f x s).1.ws.length = wn2) ∧ ((pthF os tb f x s).1.rs.length = rn2) ∧ (MlR ml2 (pthF os tb f x s).1.sn C2) ∧ (C2 + 9 * unk os ml2 ≤ C + 9 * unk os ml + 1) ∧ D' = [] ∧ M' = [cl bw 151 (wkC (.iface 26 (.agg #[.slice a n c])) (fnV ft cs) sm pa2 wa2 ra2 pn2 pc2 wn2 wc2 rn2 rc2), mp sm aK iK ml2, own 32 38 pa2 pn2 pc2 (((pthF os tb f x s).1.ps).map iC), own 34 90 wa2 wn2 wc2 (((pthF os tb f x s).1.ws).map wnC), own 32 38 ra2 rn2 rc2 (((pthF os tb f x s).1.rs).map iC)])
 | 0, _, _, _, _, _, _, _, _, _, _, _, _, _, hd, _, _, _, _, _, _, _ => absurd hd id
 | f + 1, _, _, _, _, _, _, _, _, _, _, _, _, _, hd, h1, h2, h3, h4, h5, h6, h7 => path_step hn hs hT TH hd h1 h2 h3 h4 h5 h6 h7 (path_spec hn hs hT TH f)
end Cv
