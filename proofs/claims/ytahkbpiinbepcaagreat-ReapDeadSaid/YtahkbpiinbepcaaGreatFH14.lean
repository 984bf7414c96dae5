/-
  The walks: registries: the order.
-/
import Derived.Test.YtahkbpiinbepcaaGreatAC14
import Derived.Test.YtahkbpiinbepcaaGreatProg
import Derived.KernelRfl
import Derived.Test.YtahkbpiinbepcaaGreatCvLd
set_option linter.unusedVariables false
set_option linter.unusedSimpArgs false
set_option linter.unusedSectionVars false
set_option maxHeartbeats 400000
set_option maxRecDepth 10000
namespace Cv
open Go Go.Proofs
/-! ## the order of paths: the plain model -/
def refsOf (pl : IvM) (x : ID32) : List ID32 := match look pl x with
  | some v => v.1.2
  | none => []
abbrev VS := List ID32 × List ID32
def visF (pl : IvM) : Nat → ID32 → VS → VS
  | 0, _, s => s
  | f + 1, x, s => if x ∈ s.1 then s else
      (((refsOf pl x).foldl (fun s y => visF pl f y s) (s.1 ++ [x], s.2)).1, ((refsOf pl x).foldl (fun s y => visF pl f y s) (s.1 ++ [x], s.2)).2 ++ [x])
theorem vis_s {pl : IvM} {f : Nat} {x : ID32} {s : VS} (h : x ∈ s.1) : visF pl (f + 1) x s = s := by rw [visF, if_pos h]
theorem vis_n {pl : IvM} {f : Nat} {x : ID32} {s r : VS} (h : x ∉ s.1) (e : r = (refsOf pl x).foldl (fun s y => visF pl f y s) (s.1 ++ [x], s.2)) : visF pl (f + 1) x s = (r.1, r.2 ++ [x]) := by subst e; rw [visF, if_neg h]
def VD (pl : IvM) : Nat → ID32 → Prop
  | 0, _ => False
  | f + 1, x => ∀ r ∈ refsOf pl x, VD pl f r
structure MlR (ml : SnM) (sn : List ID32) (C : Nat) : Prop where
  ky : ml.map Prod.fst = sn
  lo : ∀ x ∈ sn, 1 ≤ val0 ml x
  hi : ∀ x, 0 ≤ val0 ml x ∧ val0 ml x ≤ C
theorem MlR.start : MlR [] [] 0 := ⟨rfl, fun x h => (by cases h), fun x => ⟨Int.le_refl _, Int.le_refl _⟩⟩
theorem MlR.seen {ml : SnM} {sn : List ID32} {C : Nat} (h : MlR ml sn C) {x : ID32} : 1 < val0 ml x + 1 ↔ x ∈ sn := by
  constructor
  · intro e; rw [← h.ky]; exact RcI.isOld e
  · intro e; have := h.lo x e; omega
theorem MlR.old {ml : SnM} {sn : List ID32} {C : Nat} (h : MlR ml sn C) {x : ID32} (e : x ∈ sn) : MlR (put ml x (val0 ml x + 1)) sn (C + 1) := by
  refine ⟨by rw [keys_put, if_pos (by rw [h.ky]; exact e)]; exact h.ky, fun y hy => ?_, fun y => ?_⟩
  · rw [val0_put]; split
    · have := h.hi x; omega
    · exact h.lo y hy
  · have := h.hi x; have := h.hi y
    rw [val0_put]; split <;> omega
theorem MlR.new {ml : SnM} {sn : List ID32} {C : Nat} (h : MlR ml sn C) {x : ID32} (e : x ∉ sn) : MlR (put ml x (val0 ml x + 1)) (sn ++ [x]) (C + 1) := by
  refine ⟨by rw [keys_put, if_neg (by rw [h.ky]; exact e), h.ky], fun y hy => ?_, fun y => ?_⟩
  · rw [val0_put]; split
    · have := h.hi x; omega
    · rename_i c
      rcases List.mem_append.1 hy with q | q
      · exact h.lo y q
      · exact absurd (List.mem_singleton.1 q) c
  · have := h.hi x; have := h.hi y
    rw [val0_put]; split <;> omega
def UP (pl : IvM) (dn : List ID32) : Nat := (pl.filter fun e => decide (e.1 ∉ dn)).length
theorem UP_le {pl : IvM} {dn : List ID32} {x : ID32} : UP pl (dn ++ [x]) ≤ UP pl dn := by
  unfold UP
  rw [← List.countP_eq_length_filter, ← List.countP_eq_length_filter]
  exact List.countP_mono_left fun o _ h => decide_eq_true fun q => of_decide_eq_true h (List.mem_append_left _ q)
theorem UP_lt {pl : IvM} {dn : List ID32} {x : ID32} (h : x ∉ dn) (k : refsOf pl x ≠ []) : UP pl (dn ++ [x]) + 1 ≤ UP pl dn := by
  have : ∃ v, look pl x = some v := by
    unfold refsOf at k
    cases e : look pl x with
    | some v => exact ⟨v, rfl⟩
    | none => rw [e] at k; exact absurd rfl k
  obtain ⟨v, hv⟩ := this
  exact filt_lt (fun o h => decide_eq_true fun q => of_decide_eq_true h (List.mem_append_left _ q)) ⟨(x, v), xC hv, decide_eq_true h, decide_eq_false fun q => q (List.mem_append_right _ (List.mem_singleton.2 rfl))⟩
def R8 (pl : IvM) : Prop := ∀ x, (refsOf pl x).length ≤ 8
def vpot (pl : IvM) (s : VS) : Nat := s.1.length + 9 * UP pl s.1
theorem vis_len (pl : IvM) : ∀ (f : Nat) (x : ID32) (s : VS) (d : Nat), s.2.length + d ≤ s.1.length → (visF pl f x s).2.length + d ≤ (visF pl f x s).1.length
  | 0, x, s, d, h => h
  | f + 1, x, s, d, h => by
    rw [visF]; split
    · exact h
    · have key : ∀ (l : List ID32) (s : VS), s.2.length + (d + 1) ≤ s.1.length → (l.foldl (fun s y => visF pl f y s) s).2.length + (d + 1) ≤ (l.foldl (fun s y => visF pl f y s) s).1.length := fun l => by
        induction l with
        | nil => exact fun s k => k
        | cons y l ih => exact fun s k => by rw [List.foldl_cons]; exact ih _ (vis_len pl f y s (d + 1) k)
      have := key (refsOf pl x) (s.1 ++ [x], s.2) (by dsimp only; rw [List.length_append, List.length_singleton]; omega)
      dsimp only; rw [List.length_append, List.length_singleton]; omega
theorem vis_pot {pl : IvM} (h8 : R8 pl) : ∀ (f : Nat) (x : ID32) (s : VS), vpot pl (visF pl f x s) ≤ vpot pl s + 1
  | 0, x, s => Nat.le_add_right _ _
  | f + 1, x, s => by
    rw [visF]; split
    · exact Nat.le_add_right _ _
    · rename_i c
      have key : ∀ (l : List ID32) (s : VS), vpot pl (l.foldl (fun s y => visF pl f y s) s) ≤ vpot pl s + l.length := fun l => by
        induction l with
        | nil => exact fun s => Nat.le_refl _
        | cons y l ih =>
          intro s
          have a := vis_pot h8 f y s
          have b := ih (visF pl f y s)
          rw [List.foldl_cons, List.length_cons]; omega
      have a := key (refsOf pl x) (s.1 ++ [x], s.2)
      have b := h8 x
      have e : vpot pl (s.1 ++ [x], s.2) + (refsOf pl x).length ≤ vpot pl s + 1 := by
        unfold vpot; dsimp only; rw [List.length_append, List.length_singleton]
        by_cases z : refsOf pl x = []
        · have := UP_le (pl := pl) (dn := s.1) (x := x); rw [z, List.length_nil]; omega
        · have := UP_lt c z; omega
      exact Nat.le_trans a e
theorem fold_snoc {g : ID32 → VS → VS} {l : List ID32} {i : Nat} {y : ID32} {s : VS} (h : l[i]? = some y) : (l.take (i + 1)).foldl (fun s y => g y s) s = g y ((l.take i).foldl (fun s y => g y s) s) := by
  rw [List.take_add_one, h, List.foldl_append]; rfl
theorem iv_33 (v : IV) : (ivC v)[33]? = some (.slice v.2.1 v.2.2.1 v.2.2.2) := by
  show (v.1.1.1.1.map Y ++ [.int .i64 v.1.1.2, .slice v.2.1 v.2.2.1 v.2.2.2])[33]? = _
  rw [List.getElem?_append_right (by rw [List.length_map, v.1.1.1.2]; decide), List.length_map, v.1.1.1.2]; rfl
theorem sc186 : Sc Tryz.prog 186 := fun w => ⟨by kernel_rfl, by kernel_rfl⟩
theorem visit_step {br bp bh ba b4 bq bv bo md on oc f C : Nat} {oa : Option Addr} {pl : IvM} {dl : SnM} {s : VS} {x : ID32} (h8 : R8 pl) (hd : VD pl (f + 1) x) (hml : MlR dl s.1 C) (hC : C + 9 * UP pl s.1 ≤ 100000000) (hon : s.2.length = on) (hle : s.2.length + 0 ≤ s.1.length) (hvp : vpot pl s ≤ 1000000) (IH : ∀ (dl : SnM) (oa : Option Addr) (on oc C : Nat) (s : VS) (x : ID32), VD pl f x → MlR dl s.1 C → C + 9 * UP pl s.1 ≤ 100000000 → s.2.length = on → s.2.length + 0 ≤ s.1.length → vpot pl s ≤ 1000000 → Spec Tryz.prog 105 (.agg (iC x).toArray :: [.pointer (some ⟨b4, 0, none⟩), .pointer (some ⟨bq, 0, none⟩), .pointer (some ⟨bv, 0, none⟩), .pointer (some ⟨bo, 0, none⟩)]) [cl b4 64 [.map (some md)], cl bq 65 [.pointer (some ⟨br, 0, none⟩)], cl bv 186 [fnV 105 [.pointer (some ⟨b4, 0, none⟩), .pointer (some ⟨bq, 0, none⟩), .pointer (some ⟨bv, 0, none⟩), .pointer (some ⟨bo, 0, none⟩)]], cl br 136 (rgC bp bh ba), ifs pl] [mp md aK iK dl, cl bo 30 [.slice oa on oc], own 32 38 oa on oc ((s.2).map iC), mp bp aK ivV pl] (fun v D' M' => ∃ (dl2 : SnM) (oa2 : Option Addr) (on2 oc2 C2 : Nat), v = .tuple #[] ∧ ((visF pl f x s).2.length = on2) ∧ (MlR dl2 (visF pl f x s).1 C2) ∧ (C2 + 9 * UP pl (visF pl f x s).1 ≤ C + 9 * UP pl s.1 + 1) ∧ D' = [] ∧ M' = [mp md aK iK dl2, cl bo 30 [.slice oa2 on2 oc2], own 32 38 oa2 on2 oc2 (((visF pl f x s).2).map iC), mp bp aK ivV pl])) : Spec Tryz.prog 105 [.agg (iC x).toArray, .pointer (some ⟨b4, 0, none⟩), .pointer (some ⟨bq, 0, none⟩), .pointer (some ⟨bv, 0, none⟩), .pointer (some ⟨bo, 0, none⟩)] [cl b4 64 [.map (some md)], cl bq 65 [.pointer (some ⟨br, 0, none⟩)], cl bv 186 [fnV 105 [.pointer (some ⟨b4, 0, none⟩), .pointer (some ⟨bq, 0, none⟩), .pointer (some ⟨bv, 0, none⟩), .pointer (some ⟨bo, 0, none⟩)]], cl br 136 (rgC bp bh ba), ifs pl] [mp md aK iK dl, cl bo 30 [.slice oa on oc], own 32 38 oa on oc ((s.2).map iC), mp bp aK ivV pl] (fun v D' M' => ∃ (dl2 : SnM) (oa2 : Option Addr) (on2 oc2 C2 : Nat), v = .tuple #[] ∧ ((visF pl (f + 1) x s).2.length = on2) ∧ (MlR dl2 (visF pl (f + 1) x s).1 C2) ∧ (C2 + 9 * UP pl (visF pl (f + 1) x s).1 ≤ C + 9 * UP pl s.1 + 1) ∧ D' = [] ∧ M' = [mp md aK iK dl2, cl bo 30 [.slice oa2 on2 oc2], own 32 38 oa2 on2 oc2 (((visF pl (f + 1) x s).2).map iC), mp bp aK ivV pl]) := by
 refine zC (n := 38) Tryz.func105 ?_
 intro σ D M
 have hx2 := x.2
 have hx3 := zT x
 have hv0 := hml.hi x
 have hup := UP_le (pl := pl) (dn := s.1) (x := x)
 have hvq := hvp
 unfold vpot at hvq
 have hr8 := h8 x
 refine z6 (z8 (yq rfl rfl rfl (fun b5 => ?_)))
 refine z7 (y1 (A := cl b5 38 (iC x)) qP ?_)
 refine z4 (z6 (z6 (yu (fun K' D' M' => K' = [] ∧ D' = [] ∧ M' = [mp md aK iK (put dl x (val0 dl x + 1))]) (M0 := [mp md aK iK dl]) (.c 1 rfl <| .c 2 rfl <| .c 3 rfl <| .c 4 rfl <| .c 5 rfl <| za _) qS ?_ ?_)))
 ·skip
  refine yt (clsL [1, 1, 2, 1, 2, 1, 2]) qk ?_
  refine ze 0 rfl rfl (zh rfl sc64 rfl qC ?_)
  refine zd (ze 1 rfl rfl (zp rfl zu rfl qN ?_))
  refine zd (xg (is := [2, 4]) qk jD (yE rfl ?_ <| yE rfl ?_ <| xh) )
  ·skip
   refine L.lookup1 (kenc := aK) (venc := iK) (l := dl) (k := x) rfl xm (yp yf zY sc5) zv3 rfl rfl qM ?_
   refine zv (t := 10) (u := .int .i64 (val0 dl x)) rfl (by unfold val0; cases look dl x <;> rfl) ?_
   refine zw rfl qD ?_
   refine ze 3 rfl rfl (zH rfl rfl rfl jO ?_)
   refine zd (zy 4 rfl (L.mapEntry (kenc := aK) (venc := iK) (l := dl) (k := x) (z0 := 0) rfl xm (yp yf zY sc5) zv3 rfl rfl qP (fun mt => ?_)))
   refine zw rfl qD ?_
   refine ze 5 rfl rfl (zG rfl rfl rfl (zd (zy 6 rfl (L.entryStore (kenc := aK) (venc := iK) (l := Cv.put dl x ((look dl x).getD 0)) (k := x) (v := val0 dl x + 1) rfl rfl rfl rfl qP ?_))))
   rw [put_put]
   refine zw rfl qD ?_
   refine y6 qk ?_
   exact z4 (zK ⟨rfl, rfl, rfl⟩ (za _) (.c 1 rfl <| .c 2 rfl <| .c 3 rfl <| .c 4 rfl <| .c 5 rfl <| za _) qD qD qF)
  ·skip
   refine L.mapEntry (kenc := aK) (venc := iK) (l := dl) (k := x) (z0 := 0) rfl xm (yp yf zY sc5) zv3 rfl rfl qP (fun mt => ?_)
   refine zw rfl qD ?_
   refine ze 5 rfl rfl (zG rfl rfl rfl (zd (zy 2 rfl (L.lookup1E (kenc := aK) (venc := iK) (l := Cv.put dl x ((look dl x).getD 0)) (k := x) rfl xm (yp yf zY sc5) zv3 rfl rfl qM ?_))))
   refine zv (t := 10) (u := .int .i64 (val0 dl x)) rfl (by rw [look_put, if_pos rfl]; rfl) ?_
   refine zw rfl qD ?_
   refine ze 3 rfl rfl (zH rfl rfl rfl jO ?_)
   refine zd (zy 6 rfl (L.entryStore (kenc := aK) (venc := iK) (l := Cv.put dl x ((look dl x).getD 0)) (k := x) (v := val0 dl x + 1) rfl rfl rfl rfl qP ?_))
   rw [put_put]
   refine zw rfl qD ?_
   refine y6 qk ?_
   exact z4 (zK ⟨rfl, rfl, rfl⟩ (za _) (.c 1 rfl <| .c 2 rfl <| .c 3 rfl <| .c 4 rfl <| .c 5 rfl <| za _) qD qD qF)
 rintro _ _ _ ⟨rfl, rfl, rfl⟩
 refine zF qA qA qA ?_
 refine z4 (z6 (z8 (zh rfl sc64 rfl qC ?_)))
 refine zp rfl zu rfl qN ?_
 refine L.lookup1 (kenc := aK) (venc := iK) (l := (put dl x (val0 dl x + 1))) (k := x) rfl xm (yp yf zY sc5) zv3 rfl rfl qM ?_
 refine zv (t := 16) (u := .int .i64 (val0 dl x + 1)) rfl (by rw [look_put, if_pos rfl]; rfl) ?_
 refine yB rfl rfl rfl (z7 (z4 (zo rfl (fun h17 => ?_) (fun h17 => ?_))))
 ·try simp only [dq] at h17
  have hx : x ∈ s.1 := hml.seen.1 h17
  refine zi (zD ?_)
  rw [vis_s hx]
  exact yW (by simp) rfl ⟨_, _, _, _, C + 1, rfl, hon, hml.old hx, jO, rfl, rfl⟩ qD qF
 ·try simp only [dq] at h17
  have hx : x ∉ s.1 := fun q => h17 (hml.seen.2 q)
  refine zm (z4 (z6 (z6 (yu (fun K' D' M' => ∃ (ra : Option Addr) (rn rc : Nat) (rl : List ID32), (rl = refsOf pl x ∧ rl.length = rn) ∧ K' = [(24, .slice ra rn rc), (25, .int .i64 (rn : Int)), (26, .int .i64 0)] ∧ D' = [rsl 32 ra rn rc (rl.map iC)] ∧ M' = [mp bp aK ivV pl]) (M0 := [mp bp aK ivV pl]) (.c 3 rfl <| .c 4 rfl <| .c 5 rfl <| za _) qS ?_ ?_))))
  ·skip
   rcases hlk : look pl x with _ | v
   ·skip
    refine yF (sz := 32) (e := 38) ?_
    refine zZ qP (show own 32 38 none 0 0 [] = own 32 38 none 0 0 (([] : List ID32).map iC) from rfl) ?_
    refine yD (rows := ([] : List ID32).map iC) qP ?_
    refine yC qk qk (zh rfl sc65 rfl qC ?_)
    refine yi rfl rfl ?_
    refine zj rfl fo136_0 rfl ?_
    refine zh rfl sc134 rfl qC ?_
    refine zp rfl zu rfl qN ?_
    first | refine L.look1S (kenc := aK) (venc := ivV) (l := pl) (k := x) (v := v) rfl yJ (yp yf zY sc5) zv54 rfl rfl qM hlk ?_ | refine L.look1N (kenc := aK) (venc := ivV) (l := pl) (k := x) rfl yJ (yp yf zY sc5) zv54 rfl rfl qM hlk ?_
    first | refine L.fieldV rfl Tryz.underlying54 rfl sc30 rfl (iv_33 v) ?_ | refine L.fieldV rfl Tryz.underlying54 rfl sc30 rfl rfl ?_
    exact y2 rfl zA rfl (z5 rfl rfl (yA (z4 (zK ⟨none, 0, 0, [], ⟨by unfold refsOf; rw [hlk], rfl⟩, rfl, rfl, rfl⟩ (.c 24 rfl <| .c 25 rfl <| .c 26 rfl <| za _) (.c 3 rfl <| .c 4 rfl <| .c 5 rfl <| za _) qD qD qF))))
   ·skip
    have hv3 := inC_len v.1.1 v.2.1 v.2.2.1 v.2.2.2
    have hv32 := v.1.1.1.2
    refine T.fcsIn (L := pl.map iF) qM (iF_in (xC hlk)) ?_
    refine yH (a := v.2.1) (len := v.2.2.1) (cap := v.2.2.2) (rows := v.1.2.map iC) qM (fun hql hqc => ?_)
    rw [List.length_map] at hql
    refine yF (sz := 32) (e := 38) ?_
    refine zZ qP (show own 32 38 none 0 0 [] = own 32 38 none 0 0 (([] : List ID32).map iC) from rfl) ?_
    refine yD (rows := ([] : List ID32).map iC) qP ?_
    refine yC qk qk (zh rfl sc65 rfl qC ?_)
    refine yi rfl rfl ?_
    refine zj rfl fo136_0 rfl ?_
    refine zh rfl sc134 rfl qC ?_
    refine zp rfl zu rfl qN ?_
    first | refine L.look1S (kenc := aK) (venc := ivV) (l := pl) (k := x) (v := v) rfl yJ (yp yf zY sc5) zv54 rfl rfl qM hlk ?_ | refine L.look1N (kenc := aK) (venc := ivV) (l := pl) (k := x) rfl yJ (yp yf zY sc5) zv54 rfl rfl qM hlk ?_
    first | refine L.fieldV rfl Tryz.underlying54 rfl sc30 rfl (iv_33 v) ?_ | refine L.fieldV rfl Tryz.underlying54 rfl sc30 rfl rfl ?_
    exact y2 rfl zA rfl (z5 rfl rfl (yA (z4 (zK ⟨v.2.1, v.2.2.1, v.2.2.2, v.1.2, ⟨by unfold refsOf; rw [hlk], hql⟩, rfl, rfl, rfl⟩ (.c 24 rfl <| .c 25 rfl <| .c 26 rfl <| za _) (.c 3 rfl <| .c 4 rfl <| .c 5 rfl <| za _) qD qD qF))))
  rintro _ _ _ ⟨ra, rn, rc, rl, ⟨hrl, hrn⟩, rfl, rfl, rfl⟩
  refine zF qA qA qA ?_
  rw [← hrl] at hr8
  refine z4 (zr ?_)
  have hur : rn = 0 ∨ UP pl (s.1 ++ [x]) + 1 ≤ UP pl s.1 := by
   by_cases z : rn = 0
   ·exact .inl z
   ·exact .inr (UP_lt hx (by rw [← hrl]; intro e; rw [e] at hrn; exact z hrn.symm))
  have hvs : vpot pl (s.1 ++ [x], s.2) = s.1.length + 1 + 9 * UP pl (s.1 ++ [x]) := by unfold vpot; rw [List.length_append]; rfl
  refine y4 _ ((((rl.take 0).foldl (fun s y => visF pl f y s) (s.1 ++ [x], s.2)).2).map iC) qP (by rfl) ?_
  refine zX (fun K' D' M' μ => ∃ (i : Nat) (dl4 : SnM) (oa4 : Option Addr) (on4 oc4 C4 : Nat), (i ≤ rn ∧ ((rl.take i).foldl (fun s y => visF pl f y s) (s.1 ++ [x], s.2)).2.length = on4 ∧ MlR dl4 ((rl.take i).foldl (fun s y => visF pl f y s) (s.1 ++ [x], s.2)).1 C4 ∧ (C4 + 9 * UP pl ((rl.take i).foldl (fun s y => visF pl f y s) (s.1 ++ [x], s.2)).1 ≤ C + 1 + 9 * UP pl (s.1 ++ [x]) + i) ∧ ((rl.take i).foldl (fun s y => visF pl f y s) (s.1 ++ [x], s.2)).2.length + 1 ≤ ((rl.take i).foldl (fun s y => visF pl f y s) (s.1 ++ [x], s.2)).1.length ∧ vpot pl ((rl.take i).foldl (fun s y => visF pl f y s) (s.1 ++ [x], s.2)) ≤ vpot pl (s.1 ++ [x], s.2) + i) ∧ K' = [(26, .int .i64 (i : Int))] ∧ D' = [] ∧ M' = [mp md aK iK dl4, cl bo 30 [.slice oa4 on4 oc4], own 32 38 oa4 on4 oc4 ((((rl.take i).foldl (fun s y => visF pl f y s) (s.1 ++ [x], s.2)).2).map iC), mp bp aK ivV pl] ∧ μ = rn - i) (.c 3 rfl <| .c 4 rfl <| .c 5 rfl <| .c 24 rfl <| .c 25 rfl <| za _) (⟨0, (put dl x (val0 dl x + 1)), oa, on, oc, C + 1, ⟨Nat.zero_le _, hon, hml.new hx, by show C + 1 + 9 * UP pl (s.1 ++ [x]) ≤ _; omega, by show s.2.length + 1 ≤ (s.1 ++ [x]).length; rw [List.length_append, List.length_singleton]; omega, Nat.le_refl _⟩, rfl, rfl, rfl, rfl⟩) (.c 26 rfl <| za _) qD qS ?_
  rintro K1 D1 M1 m1 ⟨i, dl4, oa4, on4, oc4, C4, ⟨hi, ho4, hm4, hC4, hl4, hp4⟩, rfl, rfl, rfl, rfl⟩
  refine zF qA qA qA ?_
  have hb := hp4
  rw [hvs] at hb
  unfold vpot at hb
  refine z6 (z8 (zQ rfl rfl rfl (z7 (z4 (z6 (zo rfl (fun h27 => ?_) (fun h27 => ?_)))))))
  ·try simp only [dq] at h27
   refine zm (z4 (z6 (zr (z6 ?_))))
   have hgi : rl[i]? = some (gd rl i) := zJ jO
   obtain ⟨r, hr_⟩ : ∃ y, y = gd rl i := ⟨_, rfl⟩
   rw [← hr_] at hgi
   clear hr_
   have hgr : (rl.map iC)[i]? = some (iC r) := zU hgi
   have hrr2 := r.2
   have hrr3 := zT r
   refine z8 (yI (i := i) rfl zA zN rfl rfl qM jR qG (fun b28 o28 => ?_))
   refine zp rfl zu rfl (x8 qM hrr3) ?_
   refine zL rfl ze38 (fun b7 => ?_)
   refine zE zu rfl rfl qL qO qU qW ?_
   refine z7 (y1 (A := cl b7 38 (iC r)) qP ?_)
   refine z4 ?_
   have hIH := IH dl4 oa4 on4 oc4 C4 ((rl.take i).foldl (fun s y => visF pl f y s) (s.1 ++ [x], s.2)) r (hd r (by rw [← hrl]; exact List.mem_of_getElem? hgi)) hm4 jO ho4 (by have := hl4; omega) jO
   refine z8 (zh rfl sc186 rfl qC ?_)
   refine zp rfl zu rfl qN ?_
   refine L.callV rfl rfl (ev1 rfl) qD qS (hIH) ?_
   rintro _ _ _ ⟨dl5, oa5, on5, oc5, C5, rfl, ho5, hm5, hC5, rfl, rfl⟩
   refine zt qA qA ?_
   refine z7 (zI (z4 (z8 (zH rfl rfl rfl jO ?_))))
   refine z5 rfl rfl (z7 (z4 ?_))
   have hl5 := vis_len pl f r ((rl.take i).foldl (fun s y => visF pl f y s) (s.1 ++ [x], s.2)) 1 hl4
   have hp5 := vis_pot h8 f r ((rl.take i).foldl (fun s y => visF pl f y s) (s.1 ++ [x], s.2))
   rw [← fold_snoc (g := visF pl f) hgi] at ho5 hm5 hC5 hl5 hp5 ⊢
   exact zM ⟨i + 1, dl5, oa5, on5, oc5, C5, ⟨by omega, ho5, hm5, by omega, hl5, by omega⟩, rfl, rfl, rfl, rfl⟩ qI (.c 26 rfl <| za _) (.c 3 rfl <| .c 4 rfl <| .c 5 rfl <| .c 24 rfl <| .c 25 rfl <| za _) qD qD qF
  ·try simp only [dq] at h27
   obtain rfl : rn = i := by omega
   rw [List.take_of_length_le jO] at ho4 hm4 hC4 hl4 hp4 hb ⊢
   refine zR (zq (zq (zS (z4 (z8 (zh rfl sc30 rfl qC ?_))))))
   refine zp rfl zu rfl qN ?_
   refine yh rfl bs30 jD (yQ rfl rfl (by first | with_reducible assumption | (simp; done) | (simp only [List.length_map]; with_reducible assumption) | (simp [*]; done) | rfl) (Nat.le_of_ble_eq_true rfl) qR <| zO (out := []) rfl) (fun b36 => ?_)
   refine yR rfl zA el38 rfl rfl qP qM (by rw [List.append_nil]; exact hx3) (fun u hu => by rw [List.append_nil] at hu; exact one_iC u hu) qI qI (fun a37 c37 => ?_)
   refine yv sc30 rfl rfl rfl qU qE ?_
   refine z7 (y4 _ (((rl.foldl (fun s y => visF pl f y s) (s.1 ++ [x], s.2)).2 ++ [x]).map iC) qP (by rw [List.map_append, List.append_nil]; rfl) ?_)
   rw [vis_n hx (congrArg (fun l => List.foldl (fun s y => visF pl f y s) (s.1 ++ [x], s.2) l) hrl)]
   exact yW (by simp) rfl ⟨_, _, on4 + 1, _, C4, rfl, (by rw [List.length_append, ho4]; rfl), hm4, (by dsimp only; omega), rfl, rfl⟩ qD qF
theorem visit_spec {br bp bh ba b4 bq bv bo md : Nat} {pl : IvM} (h8 : R8 pl) : ∀ f : Nat, ∀ (dl : SnM) (oa : Option Addr) (on oc C : Nat) (s : VS) (x : ID32), VD pl f x → MlR dl s.1 C → C + 9 * UP pl s.1 ≤ 100000000 → s.2.length = on → s.2.length + 0 ≤ s.1.length → vpot pl s ≤ 1000000 → Spec Tryz.prog 105 (.agg (iC x).toArray :: [.pointer (some ⟨b4, 0, none⟩), .pointer (some ⟨bq, 0, none⟩), .pointer (some ⟨bv, 0, none⟩), .pointer (some ⟨bo, 0, none⟩)]) [cl b4 64 [.map (some md)], cl bq 65 [.pointer (some ⟨br, 0, none⟩)], cl bv 186 [fnV 105 [.pointer (some ⟨b4, 0, none⟩), .pointer (some ⟨bq, 0, none⟩), .pointer (some ⟨bv, 0, none⟩), .pointer (some ⟨bo, 0, none⟩)]], cl br 136 (rgC bp bh ba), ifs pl] [mp md aK iK dl, cl bo 30 [.slice oa on oc], own 32 38 oa on oc ((s.2).map iC), mp bp aK ivV pl] (fun v D' M' => ∃ (dl2 : SnM) (oa2 : Option Addr) (on2 oc2 C2 : Nat), v = .tuple #[] ∧ ((visF pl f x s).2.length = on2) ∧ (MlR dl2 (visF pl f x s).1 C2) ∧ (C2 + 9 * UP pl (visF pl f x s).1 ≤ C + 9 * UP pl s.1 + 1) ∧ D' = [] ∧ M' = [mp md aK iK dl2, cl bo 30 [.slice oa2 on2 oc2], own 32 38 oa2 on2 oc2 (((visF pl f x s).2).map iC), mp bp aK ivV pl])
 | 0, _, _, _, _, _, _, _, hd, _, _, _, _, _ => absurd hd id
 | f + 1, _, _, _, _, _, _, _, hd, h1, h2, h3, h4, h5 => visit_step h8 hd h1 h2 h3 h4 h5 (visit_spec h8 f)
end Cv
set_option maxRecDepth 10000
namespace Cv
open Go Go.Proofs
theorem rev_nx {us : List ID32} {pre : List (Int × ID32)} {m : Nat} {x : ID32} (hm : m + 1 + pre.length = us.length) (h : pre.map (·.2) = us.reverse.take pre.length) (g : us[m]? = some x) (k : Int) : (pre ++ [(k, x)]).map (·.2) = us.reverse.take (pre ++ [(k, x)]).length := by
  have e : us.reverse[pre.length]? = some x := by
    rw [List.getElem?_reverse (by omega), show us.length - 1 - pre.length = m by omega]; exact g
  rw [List.map_append, h, List.length_append, List.length_singleton, List.take_add_one, e]; rfl
theorem rev_fin {us : List ID32} {pre : List (Int × ID32)} (hm : pre.length = us.length) (h : pre.map (·.2) = us.reverse.take pre.length) : pre.map (·.2) = us.reverse := by
  rw [h, List.take_of_length_le (by rw [List.length_reverse]; omega)]
def ddF (lv : List ID32) (l : List ID32) : List ID32 := l.filter fun x => decide (x ∉ lv)
theorem ddF_t {lv l : List ID32} {x : ID32} (h : x ∉ lv) : ddF lv (l ++ [x]) = ddF lv l ++ [x] := by
  unfold ddF; rw [List.filter_append]
  have : [x].filter (fun x => decide (x ∉ lv)) = [x] := by simp [h]
  rw [this]
theorem ddF_f {lv l : List ID32} {x : ID32} (h : x ∈ lv) : ddF lv (l ++ [x]) = ddF lv l := by
  unfold ddF; rw [List.filter_append]
  have : [x].filter (fun x => decide (x ∉ lv)) = [] := by simp [h]
  rw [this, List.append_nil]
theorem ddF_le (lv l : List ID32) : (ddF lv l).length ≤ l.length := List.length_filter_le _ _
structure OrdF (pl : IvM) (us : List ID32) : Prop where
  ex : ∃ ks, KeysF (pl.map Prod.fst) ks ∧ us = (ks.foldl (fun s y => visF pl 9 y s) ([], [])).2
structure LivF (os : List Ob) (hl al : SnM) (lv : List ID32) : Prop where
  ex : ∃ hs qs, KeysF (hl.map Prod.fst) hs ∧ KeysF (al.map Prod.fst) qs ∧ RchF os (hs ++ qs) lv
theorem fold_vlen (pl : IvM) (f : Nat) : ∀ (l : List ID32) (s : VS), s.2.length ≤ s.1.length → (l.foldl (fun s y => visF pl f y s) s).2.length ≤ (l.foldl (fun s y => visF pl f y s) s).1.length
  | [], s, h => h
  | y :: l, s, h => by rw [List.foldl_cons]; exact fold_vlen pl f l _ (vis_len pl f y s 0 h)
theorem fold_vpot {pl : IvM} (h8 : R8 pl) (f : Nat) : ∀ (l : List ID32) (s : VS), vpot pl (l.foldl (fun s y => visF pl f y s) s) ≤ vpot pl s + l.length
  | [], s => Nat.le_refl _
  | y :: l, s => by
    have a := vis_pot h8 f y s
    have b := fold_vpot h8 f l (visF pl f y s)
    rw [List.foldl_cons, List.length_cons]; omega
theorem ord_len {pl : IvM} (hm : pl.length ≤ 1000) (h8 : R8 pl) {us : List ID32} (h : OrdF pl us) : us.length ≤ 10000 := by
  obtain ⟨ks, hk, rfl⟩ := h.ex
  have a := fold_vlen pl 9 ks ([], []) (Nat.le_refl _)
  have b := fold_vpot h8 9 ks ([], [])
  have c := hk.len
  rw [List.length_map] at c
  have d : UP pl [] ≤ pl.length := List.length_filter_le _ _
  have e : vpot pl ([], []) = 0 + 9 * UP pl [] := rfl
  have g : ∀ s : VS, s.1.length ≤ vpot pl s := fun s => Nat.le_add_right _ _
  have := g (ks.foldl (fun s y => visF pl 9 y s) ([], []))
  omega
theorem zv30 : ∀ w, (zeroValue 30).run Tryz.prog w = .ok (Value.slice none 0 0) w := fun w => by kernel_rfl
theorem ze30 : Ze Tryz.prog 30 [Value.slice none 0 0] := ⟨_, rfl, zv30⟩
theorem zv64 : ∀ w, (zeroValue 64).run Tryz.prog w = .ok (Value.map none) w := fun w => by kernel_rfl
theorem ze64 : Ze Tryz.prog 64 [Value.map none] := ⟨_, rfl, zv64⟩
theorem zv186 : ∀ w, (zeroValue 186).run Tryz.prog w = .ok (Value.nilFunc) w := fun w => by kernel_rfl
theorem ze186 : Ze Tryz.prog 186 [Value.nilFunc] := ⟨_, rfl, zv186⟩
theorem order_spec {br bp bh ba : Nat} {pl : IvM}  (hm : pl.length ≤ 1000) (h8 : R8 pl) (hd : ∀ x ∈ pl.map Prod.fst, VD pl 9 x) : Spec Tryz.prog 75 [.pointer (some ⟨br, 0, none⟩)] [cl br 136 (rgC bp bh ba), ifs pl] [mp bp aK ivV pl] (fun v D' M' => ∃ (a' : Option Addr) (n' c' : Nat) (us : List ID32), v = .slice a' n' c' ∧ (OrdF pl us) ∧ (us.length = n') ∧ D' = [] ∧ M' = [mp bp aK ivV pl, own 32 38 a' n' c' ((us).map iC)]) := by
 refine zC (n := 22) Tryz.func75 ?_
 intro σ D M
 have hup0 : UP pl [] ≤ pl.length := List.length_filter_le _ _
 refine z6 (z8 (yq rfl rfl rfl (fun b1 => ?_)))
 refine z9 rfl rfl (z7 (y1 (A := cl b1 65 [.pointer (some ⟨br, 0, none⟩)]) qP ?_))
 refine z4 (z6 (z8 (zL rfl ze30 (fun b3 => ?_))))
 refine z7 (yF (sz := 32) (e := 38) ?_)
 refine zZ qP (show own 32 38 none 0 0 [] = own 32 38 none 0 0 (([] : List ID32).map iC) from rfl) ?_
 refine z4 (z6 (z8 (L.makeMap aK iK rfl (fun md => ?_))))
 refine zL rfl ze64 (fun b4 => ?_)
 refine yv sc64 rfl rfl rfl qU qE ?_
 refine z7 (y1 (A := cl b4 64 [.map (some md)]) qP ?_)
 refine z4 (z6 (z8 (zL rfl ze186 (fun b5 => ?_))))
 refine z7 (z4 (z6 (z8 (L.makeFunc rfl (ev4 rfl rfl rfl rfl) ?_))))
 refine yv sc186 rfl rfl rfl qU qE ?_
 refine z7 (y1 (A := cl b5 186 [fnV 105 [.pointer (some ⟨b4, 0, none⟩), .pointer (some ⟨b1, 0, none⟩), .pointer (some ⟨b5, 0, none⟩), .pointer (some ⟨b3, 0, none⟩)]]) qP ?_)
 refine z4 (z6 (z6 (z8 (zh rfl sc65 rfl qC ?_))))
 refine zx rfl (ev1 rfl) qD qS (paths_spec (pl := pl) jO) ?_
 rintro _ _ _ ⟨ka, kn, kc, ks, rfl, hkf, hkn, rfl, rfl⟩
 refine zt qA qA ?_
 have hkl := hkf.len
 rw [List.length_map] at hkl
 refine y2 rfl zA rfl (z5 rfl rfl (z7 (yD (rows := ks.map iC) qP ?_)))
 refine z4 (zr (y4 _ ((((ks.take 0).foldl (fun s y => visF pl 9 y s) ([], [])).2).map iC) qP (by rfl) ?_))
 refine zX (fun K' D' M' μ => ∃ (i : Nat) (dl : SnM) (oa : Option Addr) (on oc C : Nat), (i ≤ kn ∧ ((ks.take i).foldl (fun s y => visF pl 9 y s) ([], [])).2.length = on ∧ MlR dl ((ks.take i).foldl (fun s y => visF pl 9 y s) ([], [])).1 C ∧ (C + 9 * UP pl ((ks.take i).foldl (fun s y => visF pl 9 y s) ([], [])).1 ≤ 9 * UP pl [] + i) ∧ ((ks.take i).foldl (fun s y => visF pl 9 y s) ([], [])).2.length + 0 ≤ ((ks.take i).foldl (fun s y => visF pl 9 y s) ([], [])).1.length ∧ vpot pl ((ks.take i).foldl (fun s y => visF pl 9 y s) ([], [])) ≤ 9 * UP pl [] + i) ∧ K' = [(13, .int .i64 (i : Int))] ∧ D' = [] ∧ M' = [mp md aK iK dl, cl b3 30 [.slice oa on oc], own 32 38 oa on oc ((((ks.take i).foldl (fun s y => visF pl 9 y s) ([], [])).2).map iC), mp bp aK ivV pl] ∧ μ = kn - i) (.c 3 rfl <| .c 5 rfl <| .c 11 rfl <| .c 12 rfl <| za _) (⟨0, [], none, 0, 0, 0, ⟨Nat.zero_le _, rfl, .start, by show 0 + 9 * UP pl [] ≤ _; omega, Nat.le_refl _, by show 0 + 9 * UP pl [] ≤ _; omega⟩, rfl, rfl, rfl, rfl⟩) (.c 13 rfl <| za _) qD qS ?_
 rintro K1 D1 M1 m1 ⟨i, dl, oa, on, oc, C, ⟨hi, ho4, hm4, hC4, hl4, hp4⟩, rfl, rfl, rfl, rfl⟩
 refine zF qA qA qA ?_
 refine z6 (z8 (zQ rfl rfl rfl (z7 (z4 (z6 (zo rfl (fun h14 => ?_) (fun h14 => ?_)))))))
 ·try simp only [dq] at h14
  refine zm (z4 (z6 (zr (z6 ?_))))
  have hgi : ks[i]? = some (gd ks i) := zJ jO
  obtain ⟨x, hx_⟩ : ∃ y, y = gd ks i := ⟨_, rfl⟩
  rw [← hx_] at hgi
  clear hx_
  have hgr : (ks.map iC)[i]? = some (iC x) := zU hgi
  have hx2 := x.2
  have hx3 := zT x
  have hxk : x ∈ pl.map Prod.fst := (hkf.mem x).1 (List.mem_of_getElem? hgi)
  refine z8 (yI (i := i) rfl zA zN rfl rfl qM jR qG (fun b15 o15 => ?_))
  refine zp rfl zu rfl (x8 qM hx3) ?_
  refine zL rfl ze38 (fun b7 => ?_)
  refine zE zu rfl rfl qL qO qU qW ?_
  refine z7 (y1 (A := cl b7 38 (iC x)) qP ?_)
  refine z4 ?_
  have hV := visit_spec (br := br) (bp := bp) (bh := bh) (ba := ba) (b4 := b4) (bq := b1) (bv := b5) (bo := b3) (md := md) h8 9 dl oa on oc C ((ks.take i).foldl (fun s y => visF pl 9 y s) ([], [])) x (hd x hxk) hm4 jO ho4 hl4 jO
  refine z8 (zh rfl sc186 rfl qC ?_)
  refine zp rfl zu rfl qN ?_
  refine L.callV rfl rfl (ev1 rfl) qD qS (hV) ?_
  rintro _ _ _ ⟨dl5, oa5, on5, oc5, C5, rfl, ho5, hm5, hC5, rfl, rfl⟩
  refine zt qA qA ?_
  refine z7 (zI (z4 (z8 (zH rfl rfl rfl jO ?_))))
  refine z5 rfl rfl (z7 (z4 ?_))
  have hl5 := vis_len pl 9 x ((ks.take i).foldl (fun s y => visF pl 9 y s) ([], [])) 0 hl4
  have hp5 := vis_pot h8 9 x ((ks.take i).foldl (fun s y => visF pl 9 y s) ([], []))
  rw [← fold_snoc (g := visF pl 9) hgi] at ho5 hm5 hC5 hl5 hp5 ⊢
  exact zM ⟨i + 1, dl5, oa5, on5, oc5, C5, ⟨by omega, ho5, hm5, by omega, hl5, by omega⟩, rfl, rfl, rfl, rfl⟩ qI (.c 13 rfl <| za _) (.c 3 rfl <| .c 5 rfl <| .c 11 rfl <| .c 12 rfl <| za _) qD qD qF
 ·try simp only [dq] at h14
  obtain rfl : kn = i := by omega
  rw [List.take_of_length_le jO] at ho4 ⊢
  refine zR (zq (zq (zS (z4 (z6 (z8 (zh rfl sc30 rfl qC ?_)))))))
  exact z9 rfl rfl (z7 (z4 (zi (zz rfl rfl ⟨_, _, _, _, rfl, ⟨ks, hkf, rfl⟩, ho4, rfl, rfl⟩ qD qF))))
theorem live_spec {br bp bh ba : Nat} {a : Option Addr} {n c : Nat} {os : List Ob} {hl al : SnM} (hn : n ≤ 3000) (hs : Shf os) (hhm : hl.length ≤ 100) (ham : al.length ≤ 100) : Spec Tryz.prog 36 [.pointer (some ⟨br, 0, none⟩), .iface 26 (.agg #[.slice a n c])] [cl br 136 (rgC bp bh ba), rsl 34 a n c (os.map obC)] [mp bh aK iK hl, mp ba aK iK al] (fun v D' M' => ∃ (a' : Option Addr) (n' c' : Nat) (us : List ID32), v = .slice a' n' c' ∧ (LivF os hl al us) ∧ (us.length = n') ∧ D' = [] ∧ M' = [mp bh aK iK hl, mp ba aK iK al, own 32 38 a' n' c' ((us).map iC)]) := by
 refine zC (n := 12) Tryz.func36 ?_
 intro σ D M
 refine z6 (z8 (z9 rfl rfl (z7 (z4 (z6 (z8 (z5 rfl rfl (z5 rfl rfl (zx rfl (ev1 rfl) qD qS (held_spec (hl := hl) jO) ?_)))))))))
 rintro _ _ _ ⟨ha, hn_, hc, hs_, rfl, hhf, hhn, rfl, rfl⟩
 refine zt qA qA ?_
 have hhl := hhf.len
 rw [List.length_map] at hhl
 refine z5 rfl rfl (zx rfl (ev1 rfl) qD qS (asked_spec (al := al) jO) ?_)
 rintro _ _ _ ⟨qa, qn, qc, as_, rfl, haf, han, rfl, rfl⟩
 refine zt qA qA ?_
 have hal := haf.len
 rw [List.length_map] at hal
 refine xy rfl zA zA el38 rfl rfl qP (rd_M qM) one_ics qI qI (fun a10 c10 => ?_)
 refine L.ownEq _ ((hs_ ++ as_).map iC) qP (by rw [List.map_append]) ?_
 refine yZ (rows := (hs_ ++ as_).map iC) qP ?_
 refine zx rfl (ev2 rfl rfl) qD qS (reach_spec (os := os) (l := hs_ ++ as_) jO hs jO) ?_
 rintro _ _ _ ⟨ra, rn, rc, us, rfl, hrf, hrn, hrb, rfl, rfl⟩
 refine zt qA qA ?_
 exact z9 rfl rfl (z7 (z4 (zi (zz rfl rfl ⟨_, _, _, us, rfl, ⟨hs_, as_, hhf, haf, hrf⟩, hrn, rfl, rfl⟩ qD qF))))
end Cv
set_option maxRecDepth 10000
namespace Cv
open Go Go.Proofs
theorem liv_len {os : List Ob} {hl al : SnM} {lv : List ID32} (h1 : hl.length ≤ 100) (h2 : al.length ≤ 100) (h : LivF os hl al lv) : lv.length ≤ 200 + 8 * os.length := by
  obtain ⟨hs, qs, a, b, c⟩ := h.ex
  have l1 := a.len
  have l2 := b.len
  have l3 := c.len
  rw [List.length_map] at l1 l2
  rw [List.length_append] at l3
  omega

theorem back1_spec {us : List ID32} {sa : Option Addr} {sn sc bs l : Nat} {ψ : Asn} {J : List (Int × ID32) → Asn} (hn : sn ≤ 1000000) (hY : ∀ (pre : List (Int × ID32)) (x : Int × ID32), pre.length < us.length → YSpec Tryz.prog l [.int .i64 x.1, .agg (iC x.2).toArray] [ψ] [J pre] (fun v D' M' => v = .bool true ∧ D' = [] ∧ M' = [J (pre ++ [x])])) : Spec Tryz.prog 104 [fnY l, .pointer (some ⟨bs, 0, none⟩)] [fcs [cl bs 30 [.slice sa sn sc], rsl 32 sa sn sc (us.map iC)], ψ] [all [], J []] (fun v D' M' => ∃ (xs : List (Int × ID32)), v = .tuple #[] ∧ (xs.map (·.2) = us.reverse) ∧ D' = [] ∧ M' = [all [], J xs]) := by
 refine zC (n := 19) Tryz.func104 ?_
 intro σ D M
 refine T.fcsIn (φ := cl bs 30 [.slice sa sn sc]) (L := [cl bs 30 [.slice sa sn sc], rsl 32 sa sn sc (us.map iC)]) qM (List.mem_cons_self ..) ?_
 refine T.fcsIn (φ := rsl 32 sa sn sc (us.map iC)) (L := [cl bs 30 [.slice sa sn sc], rsl 32 sa sn sc (us.map iC)]) qM (List.mem_cons_of_mem _ (List.mem_cons_self ..)) ?_
 refine yH (a := sa) (len := sn) (cap := sc) (rows := us.map iC) qM (fun hul huc => ?_)
 rw [List.length_map] at hul
 refine z6 (z8 (zh rfl sc30 rfl qC ?_))
 refine y2 rfl zA rfl (y7 rfl rfl rfl jO ?_)
 refine z9 rfl rfl (z7 (z4 (zr (zX (fun K' D' M' μ => ∃ (i : Int) (pre : List (Int × ID32)), ((-1 ≤ i ∧ i + 1 + pre.length = sn) ∧ pre.map (·.2) = us.reverse.take pre.length) ∧ K' = [(3, .int .i64 i)] ∧ D' = [] ∧ M' = [all [], J pre] ∧ μ = (i + 1).toNat) (.c 0 rfl <| .c 1 rfl <| za _) (⟨(sn : Int) - 1, [], ⟨by show (-1 : Int) ≤ (sn : Int) - 1 ∧ (sn : Int) - 1 + 1 + ((0 : Nat) : Int) = sn; omega, rfl⟩, rfl, rfl, rfl, rfl⟩) (.c 3 rfl <| za _) qD qS ?_))))
 rintro K1 D1 M1 m1 ⟨i, pre, ⟨hi, hpe⟩, rfl, rfl, rfl, rfl⟩
 refine zF qA qA qA ?_
 refine z6 (z6 (z8 (z5 rfl rfl (x6 rfl rfl rfl (z7 (z4 (zo rfl (fun h8 => ?_) (fun h8 => ?_))))))))
 ·try simp only [dq] at h8
  refine zm (z4 (z6 (zr (z6 ?_))))
  obtain ⟨m, rfl⟩ : ∃ m : Nat, i = (m : Int) := ⟨i.toNat, by omega⟩
  have hgi : us[m]? = some (gd us m) := zJ jO
  obtain ⟨x, hx_⟩ : ∃ y, y = gd us m := ⟨_, rfl⟩
  rw [← hx_] at hgi
  clear hx_
  have hgr : (us.map iC)[m]? = some (iC x) := zU hgi
  have hx2 := x.2
  have hx3 := zT x
  refine z8 (z5 rfl rfl (z5 rfl rfl (zh rfl sc30 rfl qC ?_)))
  refine z5 rfl rfl (yI (i := m) rfl zA zN rfl rfl qM jR qG (fun b15 o15 => ?_))
  refine zp rfl zu rfl (x8 qM hx3) ?_
  refine L.callY (M0 := [J pre]) rfl rfl rfl (evs.cons rfl <| evs.cons rfl xu) qD qS (hY pre ((m : Int), x) jO) ?_
  rintro _ _ _ ⟨rfl, rfl, rfl⟩
  refine zt qA qA ?_
  refine yX rfl rfl (z7 (z4 (ym rfl rfl ?_)))
  refine zm (zI (z4 (z8 (z5 rfl rfl (y7 rfl rfl rfl jO ?_)))))
  exact z9 rfl rfl (z7 (z4 (zM ⟨(m : Int) - 1, pre ++ [((m : Int), x)], ⟨by rw [List.length_append, List.length_singleton]; omega, rev_nx jO hpe hgi _⟩, rfl, rfl, rfl, rfl⟩ jO (.c 3 rfl <| za _) (.c 0 rfl <| .c 1 rfl <| za _) qD qD qF)))
 ·try simp only [dq] at h8
  exact zR (zq (zq (zS (yW (by simp) rfl ⟨pre, rfl, rev_fin jO hpe, rfl, rfl⟩ qD qF))))
theorem back_iter {us : List ID32} {sa : Option Addr} {sn sc bs : Nat} (hn : sn ≤ 1000000) : Iter Tryz.prog 104 [.pointer (some ⟨bs, 0, none⟩)] (fun p : Int × ID32 => [.int .i64 p.1, .agg (iC p.2).toArray]) (fun (pre : List (Int × ID32)) _ => pre.length < us.length) (fcs [cl bs 30 [.slice sa sn sc], rsl 32 sa sn sc (us.map iC)]) (all []) (all []) (fun xs => xs.map (·.2) = us.reverse) :=
 ⟨fun l ψ J hY => (back1_spec hn hY).imp (fun v D' M' ⟨xs, _, h2, h3, h4⟩ => ⟨xs, h2, h3, h4⟩)⟩
theorem back_spec {us : List ID32} {sa : Option Addr} {sn sc : Nat}  : Spec Tryz.prog 74 [.slice sa sn sc] [rsl 32 sa sn sc (us.map iC)] [] (fun v D' M' => ∃ (bs : Nat), v = fnV 104 [.pointer (some ⟨bs, 0, none⟩)] ∧ D' = [fcs [cl bs 30 [.slice sa sn sc], rsl 32 sa sn sc (us.map iC)]] ∧ M' = []) := by
 refine zC (n := 4) Tryz.func74 ?_
 intro σ D M
 refine z6 (z8 (yq rfl rfl rfl (fun b1 => ?_)))
 refine z9 rfl rfl (z7 (y1 (A := cl b1 30 [.slice sa sn sc]) qP ?_))
 refine T.fcsNil ?_
 refine T.fcsAdd (φ := rsl 32 sa sn sc (us.map iC)) (L := []) qM qM ?_
 refine T.fcsAdd (φ := cl b1 30 [.slice sa sn sc]) (L := [rsl 32 sa sn sc (us.map iC)]) qM qM ?_
 refine z4 (z6 (z8 (L.makeFunc rfl (ev1 rfl) ?_)))
 exact z9 rfl rfl (z7 (z4 (zi (zz rfl rfl ⟨b1, rfl, rfl, rfl⟩ qD qF))))
theorem dead_spec {br bp bh ba : Nat} {pl : IvM} {a : Option Addr} {n c : Nat} {os : List Ob} {hl al : SnM} (hn : n ≤ 3000) (hs : Shf os) (hhm : hl.length ≤ 100) (ham : al.length ≤ 100) (hm : pl.length ≤ 1000) (h8 : R8 pl) (hd : ∀ x ∈ pl.map Prod.fst, VD pl 9 x) : Spec Tryz.prog 39 [.pointer (some ⟨br, 0, none⟩), .iface 26 (.agg #[.slice a n c])] [cl br 136 (rgC bp bh ba), rsl 34 a n c (os.map obC), ifs pl] [mp bp aK ivV pl, mp bh aK iK hl, mp ba aK iK al] (fun v D' M' => ∃ (a' : Option Addr) (n' c' : Nat) (lv us : List ID32), v = .slice a' n' c' ∧ (LivF os hl al lv) ∧ (OrdF pl us) ∧ ((ddF lv us.reverse).length = n') ∧ D' = [] ∧ M' = [mp bp aK ivV pl, mp bh aK iK hl, mp ba aK iK al, own 32 38 a' n' c' ((ddF lv us.reverse).map iC)]) := by
 refine zC (n := 32) Tryz.func39 ?_
 intro σ D M
 refine yH (a := a) (len := n) (cap := c) (rows := os.map obC) qM (fun hol hoc => ?_)
 rw [List.length_map] at hol
 refine z6 (z8 (z9 rfl rfl (z7 (z4 (z6 (z8 (z5 rfl rfl (z5 rfl rfl (zx rfl (ev2 rfl rfl) qD qS (live_spec (os := os) hn hs hhm ham) ?_)))))))))
 rintro _ _ _ ⟨la, ln, lc, lv, rfl, hlv, hln, rfl, rfl⟩
 refine zt qA qA ?_
 obtain ⟨_, _, _, _, hlr⟩ := hlv.ex
 refine zL rfl ze30 (fun b5 => ?_)
 refine yv sc30 rfl rfl rfl qU qE ?_
 refine z7 (yD (rows := lv.map iC) qP ?_)
 refine y1 (A := cl b5 30 [.slice la ln lc]) qP ?_
 have hlb := liv_len hhm ham hlv
 refine z4 (z6 (z8 (zL rfl ze30 (fun b6 => ?_))))
 refine z7 (yF (sz := 32) (e := 38) ?_)
 refine zZ qP (show own 32 38 none 0 0 [] = own 32 38 none 0 0 ((ddF lv (([] : List (Int × ID32)).map (·.2))).map iC) from rfl) ?_
 refine T.emp ?_
 refine z4 (z6 (z6 (z8 (z5 rfl rfl (zx rfl (ev1 rfl) qD qS (order_spec (pl := pl) hm h8 hd) ?_)))))
 rintro _ _ _ ⟨oa, on, oc, us, rfl, hof, hun, rfl, rfl⟩
 refine zt qA qA ?_
 have hul := ord_len hm h8 hof
 refine yZ (rows := us.map iC) qP ?_
 refine zx rfl (ev1 rfl) qD qS (back_spec (us := us)) ?_
 rintro _ _ _ ⟨bs, rfl, rfl, rfl⟩
 refine zt qA qA ?_
 refine z7 (z4 (zr (T.mkJ (J := (fun (pre : List (Int × ID32)) => exs fun (ea : Option Addr) => exs fun (en : Nat) => exs fun (ec : Nat) => pur ((ddF lv (pre.map (·.2))).length = en ∧ pre.length ≤ us.length) (all [cl b6 30 [.slice ea en ec], own 32 38 ea en ec (((ddF lv (pre.map (·.2)))).map iC)]) : List (Int × ID32) → Asn) []) (L := (fun (pre : List (Int × ID32)) (ea : Option Addr) (en : Nat) (ec : Nat) => ([cl b6 30 [.slice ea en ec], own 32 38 ea en ec (((ddF lv (pre.map (·.2)))).map iC)] : List Asn)) [] (none) (0) (0)) qS (yG (none) (yG (0) (yG (0) (pur.in ⟨rfl, Nat.zero_le _⟩ (Ent.refl _))))) ?_)))
 refine T.rangeFunc (encs := fun p : Int × ID32 => [.int .i64 p.1, .agg (iC p.2).toArray]) (back_iter (us := us) (bs := bs) (sa := oa) (sn := on) (sc := oc) jO) rfl qk (fun _ => rfl) jD (fun p => [(18, .agg (iC p.2).toArray), (17, .int .i64 p.1)]) (fun _ => rfl) [cl b5 30 [.slice la ln lc], rsl 32 la ln lc (lv.map iC)] (fun (pre : List (Int × ID32)) => exs fun (ea : Option Addr) => exs fun (en : Nat) => exs fun (ec : Nat) => pur ((ddF lv (pre.map (·.2))).length = en ∧ pre.length ≤ us.length) (all [cl b6 30 [.slice ea en ec], own 32 38 ea en ec (((ddF lv (pre.map (·.2)))).map iC)]) : List (Int × ID32) → Asn) (.c 5 rfl <| .c 6 rfl <| za _) qD qD qS ?_ ?_
 ·intro σ1 l1 r1 pre x D1 M1 hok hr1
  refine T.norm2 qA qA ?_
  refine yY qP (fun ea => ?_)
  refine yY qP (fun en => ?_)
  refine yY qP (fun ec => ?_)
  refine T.pur qP (fun hJ => ?_)
  obtain ⟨hel, hpl⟩ := hJ
  refine T.unfold _ qP rfl qA ?_
  have hx2 := x.2.2
  have hx3 := zT x.2
  have hdl := ddF_le lv (pre.map (·.2))
  rw [List.length_map] at hdl
  have hok2 : pre.length < us.length := hok
  refine z8 (zL rfl ze38 (fun b8 => ?_))
  refine zE zu rfl rfl qL qO qU qW ?_
  refine z7 (y1 (A := cl b8 38 (iC x.2)) qP ?_)
  refine z4 (T.begin hr1.1 qP ?_)
  refine zr (z6 (z8 (zh rfl sc30 rfl qC ?_)))
  refine zp rfl zu rfl qN ?_
  refine zx rfl (ev3 rfl rfl rfl) qD qS (bsrch_spec (l := lv) (z := x.2) hlr.asc jO) ?_
  rintro _ _ _ ⟨k, rfl, rfl, rfl⟩
  refine zt qA qA ?_
  refine z5 rfl rfl (zG rfl rfl rfl (zG rfl rfl rfl (z9 rfl rfl (z9 rfl rfl (z7 (z4 (z6 (z8 (z5 rfl rfl (yX rfl rfl (z7 (z4 (zo rfl (fun h26 => ?_) (fun h26 => ?_))))))))))))))
  ·try simp only [dq] at h26
   have h26 : x.2 ∉ lv := by simpa using h26
   refine z8 (zh rfl sc30 rfl qC ?_)
   refine zp rfl zu rfl qN ?_
   refine yh rfl bs30 jD (yQ rfl rfl (by first | with_reducible assumption | (simp; done) | (simp only [List.length_map]; with_reducible assumption) | (simp [*]; done) | rfl) (Nat.le_of_ble_eq_true rfl) qR <| zO (out := []) rfl) (fun b29 => ?_)
   refine yR rfl zA el38 rfl rfl qP qM (by rw [List.append_nil]; exact hx3) (fun u hu => by rw [List.append_nil] at hu; exact one_iC u hu) qI qI (fun a30 c30 => ?_)
   refine yv sc30 rfl rfl rfl qU qE ?_
   refine z7 (zI (y4 _ ((ddF lv ((pre ++ [x]).map (·.2))).map iC) qP (by rw [List.map_append, List.map_singleton, ddF_t h26, List.map_append, List.append_nil]; rfl) ?_))
   refine T.mkJ (J := (fun (pre : List (Int × ID32)) => exs fun (ea : Option Addr) => exs fun (en : Nat) => exs fun (ec : Nat) => pur ((ddF lv (pre.map (·.2))).length = en ∧ pre.length ≤ us.length) (all [cl b6 30 [.slice ea en ec], own 32 38 ea en ec (((ddF lv (pre.map (·.2)))).map iC)]) : List (Int × ID32) → Asn) (pre ++ [x])) (L := (fun (pre : List (Int × ID32)) (ea : Option Addr) (en : Nat) (ec : Nat) => ([cl b6 30 [.slice ea en ec], own 32 38 ea en ec (((ddF lv (pre.map (·.2)))).map iC)] : List Asn)) (pre ++ [x]) (_) (en + 1) (_)) qS (yG (_) (yG (en + 1) (yG (_) (pur.in ⟨by rw [List.map_append, List.map_singleton, ddF_t h26, List.length_append, hel]; rfl, by rw [List.length_append, List.length_singleton]; omega⟩ (Ent.refl _))))) ?_
   exact T.roundEnd hr1 qP qD qF
  ·try simp only [dq] at h26
   have h26 : ¬ x.2 ∉ lv := by simpa using h26
   refine zm (zI (y4 _ ((ddF lv ((pre ++ [x]).map (·.2))).map iC) qP (by rw [List.map_append, List.map_singleton, ddF_f (Decidable.not_not.1 h26)]) ?_))
   refine T.mkJ (J := (fun (pre : List (Int × ID32)) => exs fun (ea : Option Addr) => exs fun (en : Nat) => exs fun (ec : Nat) => pur ((ddF lv (pre.map (·.2))).length = en ∧ pre.length ≤ us.length) (all [cl b6 30 [.slice ea en ec], own 32 38 ea en ec (((ddF lv (pre.map (·.2)))).map iC)]) : List (Int × ID32) → Asn) (pre ++ [x])) (L := (fun (pre : List (Int × ID32)) (ea : Option Addr) (en : Nat) (ec : Nat) => ([cl b6 30 [.slice ea en ec], own 32 38 ea en ec (((ddF lv (pre.map (·.2)))).map iC)] : List Asn)) (pre ++ [x]) (_) (en) (_)) qS (yG (_) (yG (en) (yG (_) (pur.in ⟨by rw [List.map_append, List.map_singleton, ddF_f (Decidable.not_not.1 h26)]; exact hel, by rw [List.length_append, List.length_singleton]; omega⟩ (Ent.refl _))))) ?_
   exact T.roundEnd hr1 qP qD qF
 ·intro b1 xs hxs
  refine yY qP (fun ea => ?_)
  refine yY qP (fun en => ?_)
  refine yY qP (fun ec => ?_)
  refine T.pur qP (fun hJ => ?_)
  obtain ⟨hel, hpl⟩ := hJ
  refine T.unfold _ qP rfl qA ?_
  refine zI (z4 (z6 (z8 (zh rfl sc30 rfl qC ?_))))
  refine z9 rfl rfl (z7 (z4 (zi (T.unmark (.inl rfl) qP ?_))))
  rw [hxs] at hel ⊢
  exact zz rfl rfl ⟨_, _, _, lv, us, rfl, hlv, hof, hel, rfl, rfl⟩ qD qF
end Cv
