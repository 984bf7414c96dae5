/-
  The walks: objects below.
-/
import Derived.Test.YtahkbpiinbepcaaGreatQc15
import Derived.Test.YtahkbpiinbepcaaGreatCC15
import Derived.Test.YtahkbpiinbepcaaGreatProg
import Derived.KernelRfl
set_option linter.unusedVariables false
set_option linter.unusedSimpArgs false
set_option linter.unusedSectionVars false
set_option maxHeartbeats 400000
set_option maxRecDepth 10000
namespace Cv
open Go Go.Proofs
/-! ## the objects of paths -/
def opn (ml : SnM) (x : ID32) : Prop := 1 < val0 ml x
def OkM (ml : SnM) : Prop := ∀ x, 0 ≤ val0 ml x ∧ val0 ml x ≤ 2
def kIn (ml : SnM) (x : ID32) : Prop := x ∈ ml.map Prod.fst
def opb (os : List Ob) (x : ID32) (lv : Int) : Prop := lv ≠ 0 ∧ ∃ o, goF os x = some o ∧ o.1 = 2 ∧ (nodR o.2.2).2.2 = 0
def Dn (os : List Ob) (ml : SnM) (p : Pt) (lv : Int) : Prop := goF os p.1 = none ∨ (kIn ml p.1 ∧ (opb os p.1 lv → opn ml p.1))
def PDn (os : List Ob) (ml : SnM) (x : ID32) : Prop := ∀ o, goF os x = some o → ∀ q ∈ (nodR o.2.2).2.1, Dn os ml q ((((nodR o.2.2).1 : Nat) : Int) - 1)
inductive Bel (os : List Ob) (p : Pt) (lv : Int) : Pt → Int → Prop
  | base : Bel os p lv p lv
  | step {q r : Pt} {k : Int} {o : Ob} (h : Bel os p lv q k) (g : goF os q.1 = some o) (h0 : k ≠ 0) (h2 : o.1 = 2) (he : (nodR o.2.2).2.2 = 0) (m : r ∈ (nodR o.2.2).2.1) : Bel os p lv r ((((nodR o.2.2).1 : Nat) : Int) - 1)
theorem Bel.trans {os : List Ob} {p q r : Pt} {lv k j : Int} (h : Bel os p lv q k) (g : Bel os q k r j) : Bel os p lv r j := by
  induction g with
  | base => exact h
  | step _ g1 h0 h2 he m ih => exact .step ih g1 h0 h2 he m
def Blw (os : List Ob) (p : Pt) (lv : Int) (x : ID32) : Prop := ∃ q k, Bel os p lv q k ∧ q.1 = x ∧ goF os x ≠ none
theorem Blw.trans {os : List Ob} {p q : Pt} {lv k : Int} {x : ID32} (h : Bel os p lv q k) (g : Blw os q k x) : Blw os p lv x := by
  obtain ⟨r, j, a, b, c⟩ := g
  exact ⟨r, j, h.trans a, b, c⟩
theorem val0_put {ml : SnM} {x y : ID32} {v : Int} : val0 (put ml x v) y = if y = x then v else val0 ml y := by
  unfold val0; rw [look_put]; split <;> rfl
theorem kIn_put {ml : SnM} {x y : ID32} {v : Int} : kIn (put ml x v) y ↔ kIn ml y ∨ y = x := put_mem
structure BelP (os : List Ob) (p : Pt) (lv : Int) (ml ml' : SnM) : Prop where
  ok : OkM ml'
  ky : ∀ x, kIn ml x → kIn ml' x
  op : ∀ x, opn ml x → opn ml' x
  dn : Dn os ml' p lv
  cl : ∀ x, opn ml' x → ¬ opn ml x → PDn os ml' x
  so : ∀ x, kIn ml' x → ¬ kIn ml x → Blw os p lv x
theorem Dn.mono {os : List Ob} {ml ml' : SnM} {p : Pt} {lv : Int} (h : Dn os ml p lv) (k : ∀ x, kIn ml x → kIn ml' x) (o : ∀ x, opn ml x → opn ml' x) : Dn os ml' p lv := by
  rcases h with h | ⟨h1, h2⟩
  · exact .inl h
  · exact .inr ⟨k _ h1, fun q => o _ (h2 q)⟩
theorem BelP.none {os : List Ob} {p : Pt} {lv : Int} {ml : SnM} (hk : OkM ml) (h : goF os p.1 = none) : BelP os p lv ml ml := ⟨hk, fun _ h => h, fun _ h => h, .inl h, fun _ a b => absurd a b, fun _ a b => absurd a b⟩
theorem BelP.leaf {os : List Ob} {p : Pt} {lv v : Int} {ml : SnM} {o : Ob} {z : Nat × List Pt × Int} (hk : OkM ml) (h : goF os p.1 = some o) (hz : z = nodR o.2.2) (hv : v = max (val0 ml p.1) 1) (hn : ¬ (lv ≠ 0 ∧ o.1 = 2 ∧ z.2.2 = 0 ∧ ¬ 1 < v)) : BelP os p lv ml (put ml p.1 v) := by
  subst hz
  have h2 := hk p.1
  refine ⟨fun x => ?_, fun x h => kIn_put.2 (.inl h), fun x h => ?_, .inr ⟨kIn_put.2 (.inr rfl), fun q => ?_⟩, fun x a b => ?_, fun x a b => ?_⟩
  · rw [val0_put]; split
    · omega
    · exact hk x
  · unfold opn at h ⊢
    rw [val0_put]; split
    · rename_i e; subst e; omega
    · exact h
  · obtain ⟨q0, o', q1, q2, q3⟩ := q
    rw [h] at q1; injection q1 with q1; subst q1
    unfold opn
    rw [val0_put, if_pos rfl]
    exact Decidable.byContradiction fun c => hn ⟨q0, q2, q3, c⟩
  · exfalso
    unfold opn at a b
    rw [val0_put] at a
    split at a
    · rename_i e; subst e; omega
    · exact b a
  · rcases kIn_put.1 a with c | c
    · exact absurd c b
    · exact ⟨p, lv, .base, c.symm, by rw [c, h]; exact fun q => by cases q⟩
structure LpI (os : List Ob) (p : Pt) (lv : Int) (z : Nat × List Pt × Int) (ml mi : SnM) (i : Nat) : Prop where
  ok : OkM mi
  ky : ∀ x, kIn (put ml p.1 2) x → kIn mi x
  op : ∀ x, opn (put ml p.1 2) x → opn mi x
  dn : ∀ q ∈ z.2.1.take i, Dn os mi q (((z.1 : Nat) : Int) - 1)
  cl : ∀ x, opn mi x → ¬ opn (put ml p.1 2) x → PDn os mi x
  so : ∀ x, kIn mi x → ¬ kIn (put ml p.1 2) x → Blw os p lv x
theorem LpI.start {os : List Ob} {p : Pt} {lv : Int} {z : Nat × List Pt × Int} {ml : SnM} (hk : OkM ml) : LpI os p lv z ml (put ml p.1 2) 0 :=
  ⟨fun x => by rw [val0_put]; split <;> first | omega | exact hk x, fun _ h => h, fun _ h => h, fun q h => (by cases h), fun _ a b => absurd a b, fun _ a b => absurd a b⟩
theorem LpI.next {os : List Ob} {p q : Pt} {lv : Int} {z : Nat × List Pt × Int} {ml mi mj : SnM} {i : Nat} {o : Ob} (h : LpI os p lv z ml mi i) (hg : z.2.1[i]? = some q) (g : goF os p.1 = some o) (h0 : lv ≠ 0) (h2 : o.1 = 2) (hz : z = nodR o.2.2) (he : z.2.2 = 0) (b : BelP os q (((z.1 : Nat) : Int) - 1) mi mj) : LpI os p lv z ml mj (i + 1) := by
  have hq : q ∈ z.2.1 := List.mem_of_getElem? hg
  subst hz
  refine ⟨b.ok, fun x k => b.ky x (h.ky x k), fun x k => b.op x (h.op x k), fun r hr => ?_, fun x a c => ?_, fun x a c => ?_⟩
  · rw [List.take_add_one, hg] at hr
    rcases List.mem_append.1 hr with e | e
    · exact (h.dn r e).mono b.ky b.op
    · obtain rfl : r = q := by simpa using e
      exact b.dn
  · by_cases d : opn mi x
    · exact fun o ho r hr => ((h.cl x d c) o ho r hr).mono b.ky b.op
    · exact b.cl x a d
  · by_cases d : kIn mi x
    · exact h.so x d c
    · exact (b.so x a d).trans (.step .base g h0 h2 he hq)
theorem LpI.fin {os : List Ob} {p : Pt} {lv : Int} {z : Nat × List Pt × Int} {ml mi : SnM} {i : Nat} {o : Ob} (h : LpI os p lv z ml mi i) (hi : z.2.1.length ≤ i) (g : goF os p.1 = some o) (hz : z = nodR o.2.2) : BelP os p lv ml mi := by
  have hd := h.dn
  rw [List.take_of_length_le hi] at hd
  subst hz
  refine ⟨h.ok, fun x k => h.ky x (kIn_put.2 (.inl k)), fun x k => h.op x ?_, .inr ⟨h.ky _ (kIn_put.2 (.inr rfl)), fun _ => h.op _ ?_⟩, fun x a b => ?_, fun x a b => ?_⟩
  · unfold opn at k ⊢
    rw [val0_put]; split
    · decide
    · exact k
  · unfold opn; rw [val0_put, if_pos rfl]; decide
  · by_cases e : x = p.1
    · subst e
      intro o' ho' q hq
      rw [g] at ho'; injection ho' with ho'; subst ho'
      exact hd q hq
    · exact h.cl x a fun c => b (by unfold opn at c ⊢; rw [val0_put, if_neg e] at c; exact c)
  · by_cases e : x = p.1
    · exact ⟨p, lv, .base, e.symm, by rw [e, g]; exact fun q => by cases q⟩
    · exact h.so x a fun c => (kIn_put.1 c).elim b e
def uop (os : List Ob) (ml : SnM) : Nat := (os.filter fun o => decide (¬ 1 < val0 ml o.2.1)).length
theorem uop_lt {os : List Ob} {ml mi : SnM} {x : ID32} {o : Ob} (g : goF os x = some o) (h : ¬ 1 < val0 ml x) (m : ∀ y, opn (put ml x 2) y → opn mi y) : uop os mi < uop os ml := by
  obtain ⟨ho, rfl⟩ := goF_mem g
  refine filt_lt (fun y hy => decide_eq_true fun c => of_decide_eq_true hy (m _ ?_)) ⟨o, ho, decide_eq_true h, decide_eq_false fun c => c (m _ ?_)⟩
  · unfold opn; rw [val0_put]; split
    · decide
    · exact c
  · unfold opn; rw [val0_put, if_pos rfl]; decide
theorem bel_go {w : Bool} {lv v1 k : Int} {a b : Prop} (hw : w = true ↔ ¬ (lv ≠ 0 ∧ a ∧ b ∧ ¬ 1 < v1)) (h : w = false) (hv : v1 = max k 1) : lv ≠ 0 ∧ a ∧ b ∧ ¬ 1 < k := by
  have h1 : lv ≠ 0 ∧ a ∧ b ∧ ¬ 1 < v1 := Classical.byContradiction fun e => by have := hw.2 e; rw [h] at this; cases this
  exact ⟨h1.1, h1.2.1, h1.2.2.1, by have := h1.2.2.2; omega⟩

theorem below_step {a : Option Addr} {n c sm : Nat} {os : List Ob} {lv : Int} {p : Pt} {ml : SnM} (hn : n ≤ 1000000) (hs : Shf os) (hl : -1 ≤ lv ∧ lv ≤ 8) (hk : OkM ml) (IH : ∀ mj : SnM, OkM mj → uop os mj < uop os ml → ∀ (j : Nat) (q : Pt), j ≤ 7 → Spec Tryz.prog 59 [.iface 26 (.agg #[.slice a n c]), .agg (ptC q).toArray, .int .i64 (j : Int), .map (some sm)] [rsl 34 a n c (os.map obC)] [mp sm aK iK mj] (fun v D' M' => ∃ mr : SnM, v = .tuple #[] ∧ BelP os q (j : Int) mj mr ∧ D' = [] ∧ M' = [mp sm aK iK mr])) : Spec Tryz.prog 59 [.iface 26 (.agg #[.slice a n c]), .agg (ptC p).toArray, .int .i64 lv, .map (some sm)] [rsl 34 a n c (os.map obC)] [mp sm aK iK ml] (fun v D' M' => ∃ (mr : SnM), v = .tuple #[] ∧ (BelP os p lv ml mr) ∧ D' = [] ∧ M' = [mp sm aK iK mr]) := by
 refine zC (n := 72) Tryz.func59 ?_
 intro σ D M
 have hp32 := p.1.2
 have hp33 := ptC_len p
 have hkp := hk p.1
 refine z6 (z8 (yq rfl rfl rfl (fun b5 => ?_)))
 refine z7 (y1 (A := cl b5 51 (ptC p)) qP ?_)
 refine z4 (z6 (z8 (z5 rfl rfl (zj rfl fo51_0 rfl ?_))))
 refine zp rfl zu rfl qN ?_
 refine L.inv rfl rfl mthG (ev1 rfl) qD qS (get_spec (os := os) (x := p.1) hn) ?_
 rintro _ _ _ ⟨rfl, rfl, rfl⟩
 refine zt qA qA ?_
 obtain ⟨o, ho⟩ : ∃ o, o = getO os p.1 := ⟨_, rfl⟩
 obtain ⟨e, he⟩ : ∃ e, e = getE os p.1 := ⟨_, rfl⟩
 have hos := hs.get p.1
 rw [← ho] at hos ⊢
 rw [← he]
 have ho33 := obC_len o
 have ho32 := o.2.1.2
 refine z5 rfl rfl (zG rfl rfl rfl (zG rfl rfl rfl (zL rfl ze45 (fun b8 => ?_))))
 refine zE ag45 rfl rfl qL qO qU qW ?_
 refine z9 rfl rfl (z7 (y1 (A := cl b8 45 (obC o)) qP ?_))
 refine z4 (z6 (z6 (z8 (z5 rfl rfl (yx rfl rfl rfl (z7 (z4 (zo rfl (fun h21 => ?_) (fun h21 => ?_)))))))))
 ·try simp only [dq] at h21
  exact zi (zD (yW (by simp) rfl ⟨_, rfl, .none hk (getE_7 (by rw [← he]; exact h21)), rfl, rfl⟩ qD qF))
 ·try simp only [dq] at h21
  have hgo : goF os p.1 = some o := by rw [ho]; exact getE_0 (by rw [← he]; exact Decidable.not_not.1 h21)
  refine zm (z4 (z6 (yt (clsL [1, 1, 1, 1, 1, 1, 2, 1, 2]) qk ?_)))
  refine ze 0 rfl rfl (z5 rfl rfl (zd (ze 1 rfl rfl (zj rfl fo51_0 rfl ?_))))
  refine zd (ze 2 rfl rfl (zp rfl zu rfl qN ?_))
  refine zd (ze 3 rfl rfl (z5 rfl rfl (zd (ze 4 rfl rfl (zj rfl fo51_0 rfl ?_)))))
  refine zd (ze 5 rfl rfl (zp rfl zu rfl qN ?_))
  refine zd (zy 6 rfl (L.lookup1 (kenc := aK) (venc := iK) (l := ml) (k := p.1) rfl xm (yp yf zY sc5) zv3 rfl rfl qM ?_))
  refine zv (t := 28) (u := .int .i64 (val0 (ml) (p.1))) rfl (by unfold val0; cases look (ml) (p.1) <;> rfl) ?_
  refine zw rfl qD ?_
  refine ze 7 rfl rfl (L.maxI rfl rfl rfl ?_)
  refine zd (zy 8 rfl (L.mapUpdate (kenc := aK) (venc := iK) (l := ml) (k := p.1) (v := max (val0 ml p.1) 1) xm (yp yf zY sc5) rfl rfl rfl rfl qP ?_))
  refine zw rfl qD ?_
  refine y6 qk ?_
  obtain ⟨v1, hv1⟩ : ∃ v, v = max (val0 ml p.1) 1 := ⟨_, rfl⟩
  rw [← hv1]
  refine z4 (z6 (z8 (zj rfl fo45_2 rfl ?_)))
  refine zh rfl sc9 rfl qC ?_
  refine zx rfl (ev1 rfl) qD qS (nparse_spec (s := o.2.2) jO) ?_
  rintro _ _ _ ⟨ka, kn, kc, rfl, hkn, rfl, rfl⟩
  refine zt qA qA ?_
  have hz8 := nodR_len o.2.2
  have hzi := nodR_in o.2.2
  have hzo := @nodR_ok o.2.2
  obtain ⟨z, hz⟩ : ∃ z, z = nodR o.2.2 := ⟨_, rfl⟩
  rw [← hz] at hkn hz8 hzi hzo ⊢
  refine z5 rfl rfl (zG rfl rfl rfl (zG rfl rfl rfl (zL rfl ze49 (fun b10 => ?_))))
  refine zE ag49 rfl rfl qL qO qU qW ?_
  refine z9 rfl rfl (z7 (y1 (A := cl b10 49 [.int .i64 (z.1 : Int), .slice ka kn kc]) qP ?_))
  refine z4 (z6 (z6 (yu (fun K' D' M' => ∃ (w : Bool), (w = true ↔ ¬ (lv ≠ 0 ∧ o.1 = 2 ∧ z.2.2 = 0 ∧ ¬ 1 < v1)) ∧ K' = [(53, .bool w)] ∧ D' = [] ∧ M' = [mp sm aK iK (put ml p.1 v1)]) (M0 := [mp sm aK iK (put ml p.1 v1)]) (.c 0 rfl <| .c 3 rfl <| .c 5 rfl <| .c 10 rfl <| za _) qS ?_ ?_)))
  ·skip
   refine z8 (z5 rfl rfl (yj rfl rfl rfl (z5 rfl rfl (yM (t := 38) rfl (fun h1 => ?_) (fun h1 => ?_)))))
   ·try simp only [dq] at h1
    exact zg (dj := 38) (c := true) rfl rfl rfl rfl rfl jD (zg (dj := 38) (c := true) rfl rfl rfl rfl rfl jD (zg (dj := 38) (c := true) rfl rfl rfl rfl rfl jD (ye rfl rfl rfl (z5 rfl rfl (zg (dj := 43) (c := true) rfl rfl rfl rfl rfl jD (zg (dj := 43) (c := true) rfl rfl rfl rfl rfl jD (ye rfl rfl rfl (z5 rfl rfl (zg (dj := 47) (c := true) rfl rfl rfl rfl rfl jD (zg (dj := 47) (c := true) rfl rfl rfl rfl rfl jD (zg (dj := 47) (c := true) rfl rfl rfl rfl rfl jD (zg (dj := 47) (c := true) rfl rfl rfl rfl rfl jD (zg (dj := 47) (c := true) rfl rfl rfl rfl rfl jD (ye rfl rfl rfl (z7 (z4 (zK ⟨_, (by simp_all), rfl, rfl, rfl⟩ (.c 53 rfl <| za _) (.c 0 rfl <| .c 3 rfl <| .c 5 rfl <| .c 10 rfl <| za _) qD qD qF)))))))))))))))))
   ·try simp only [dq] at h1
    refine zf (dj := 38) rfl rfl rfl (zj rfl fo45_0 rfl ?_)
    refine zf (dj := 38) rfl rfl rfl (zh rfl sc3 rfl qC ?_)
    refine zf (dj := 38) rfl rfl rfl (yx rfl rfl rfl (y5 rfl rfl rfl (z5 rfl rfl (yM (t := 43) rfl (fun h2 => ?_) (fun h2 => ?_)))))
    ·try simp only [dq] at h2
     exact zg (dj := 43) (c := true) rfl rfl rfl rfl rfl jD (zg (dj := 43) (c := true) rfl rfl rfl rfl rfl jD (ye rfl rfl rfl (z5 rfl rfl (zg (dj := 47) (c := true) rfl rfl rfl rfl rfl jD (zg (dj := 47) (c := true) rfl rfl rfl rfl rfl jD (zg (dj := 47) (c := true) rfl rfl rfl rfl rfl jD (zg (dj := 47) (c := true) rfl rfl rfl rfl rfl jD (zg (dj := 47) (c := true) rfl rfl rfl rfl rfl jD (ye rfl rfl rfl (z7 (z4 (zK ⟨_, (by simp_all), rfl, rfl, rfl⟩ (.c 53 rfl <| za _) (.c 0 rfl <| .c 3 rfl <| .c 5 rfl <| .c 10 rfl <| za _) qD qD qF))))))))))))
    ·try simp only [dq] at h2
     refine zf (dj := 43) rfl rfl rfl (z5 rfl rfl (zf (dj := 43) rfl rfl rfl (yx rfl rfl rfl (y5 rfl rfl rfl (z5 rfl rfl (yM (t := 47) rfl (fun h3 => ?_) (fun h3 => ?_)))))))
     ·try simp only [dq] at h3
      exact zg (dj := 47) (c := true) rfl rfl rfl rfl rfl jD (zg (dj := 47) (c := true) rfl rfl rfl rfl rfl jD (zg (dj := 47) (c := true) rfl rfl rfl rfl rfl jD (zg (dj := 47) (c := true) rfl rfl rfl rfl rfl jD (zg (dj := 47) (c := true) rfl rfl rfl rfl rfl jD (ye rfl rfl rfl (z7 (z4 (zK ⟨_, (by simp_all), rfl, rfl, rfl⟩ (.c 53 rfl <| za _) (.c 0 rfl <| .c 3 rfl <| .c 5 rfl <| .c 10 rfl <| za _) qD qD qF))))))))
     ·try simp only [dq] at h3
      refine zf (dj := 47) rfl rfl rfl (z5 rfl rfl (zf (dj := 47) rfl rfl rfl (zj rfl fo51_0 rfl ?_)))
      refine zf (dj := 47) rfl rfl rfl (zp rfl zu rfl qN ?_)
      refine zf (dj := 47) rfl rfl rfl (L.lookup1 (kenc := aK) (venc := iK) (l := put ml p.1 v1) (k := p.1) rfl xm (yp yf zY sc5) zv3 rfl rfl qM ?_)
      refine zv (t := 51) (u := .int .i64 (val0 (put ml p.1 v1) (p.1))) rfl (by unfold val0; cases look (put ml p.1 v1) (p.1) <;> rfl) ?_
      refine zv (t := 51) (u := .int .i64 v1) rfl (by rw [val0_put, if_pos rfl]) ?_
      exact zf (dj := 47) rfl rfl rfl (yB rfl rfl rfl (y5 rfl rfl rfl (z7 (z4 (zK ⟨_, (by simp_all), rfl, rfl, rfl⟩ (.c 53 rfl <| za _) (.c 0 rfl <| .c 3 rfl <| .c 5 rfl <| .c 10 rfl <| za _) qD qD qF)))))
  rintro _ _ _ ⟨w, hw, rfl, rfl, rfl⟩
  refine zF qA qA qA ?_
  refine z4 (zo rfl (fun h53 => ?_) (fun h53 => ?_))
  ·try simp only [dq] at h53
   exact zi (zD (yW (by simp) rfl ⟨_, rfl, .leaf hk hgo hz hv1 (hw.1 h53), rfl, rfl⟩ qD qF))
  ·try simp only [dq] at h53
   have hwt := bel_go hw h53 hv1
   have hz1 := chkN_0 (hzo hwt.2.2.1)
   refine zm (z4 (z6 (z8 (z5 rfl rfl (zj rfl fo51_0 rfl ?_)))))
   refine zp rfl zu rfl qN ?_
   refine L.mapUpdate (kenc := aK) (venc := iK) (l := put ml p.1 v1) (k := p.1) (v := 2) xm (yp yf zY sc5) rfl rfl rfl rfl qP ?_
   rw [put_put]
   refine z7 (z4 (z6 (z8 (zj rfl fo49_1 rfl ?_))))
   refine zh rfl sc47 rfl qC ?_
   refine y2 rfl x7 rfl (z5 rfl rfl (z7 (z4 (zr (zX (fun K' D' M' μ => ∃ (i : Nat) (mi : SnM), (i ≤ kn ∧ LpI os p lv z ml mi i) ∧ K' = [(60, .int .i64 (i : Int))] ∧ D' = [] ∧ M' = [mp sm aK iK mi] ∧ μ = kn - i) (.c 0 rfl <| .c 3 rfl <| .c 10 rfl <| .c 58 rfl <| .c 59 rfl <| za _) (⟨0, put ml p.1 2, ⟨Nat.zero_le _, .start hk⟩, rfl, rfl, rfl, rfl⟩) (.c 60 rfl <| za _) qD qS ?_)))))
   rintro K1 D1 M1 m1 ⟨i, mi, ⟨hi, hI⟩, rfl, rfl, rfl, rfl⟩
   refine zF qA qA qA ?_
   refine z6 (z8 (zQ rfl rfl rfl (z7 (z4 (z6 (zo rfl (fun h61 => ?_) (fun h61 => ?_)))))))
   ·try simp only [dq] at h61
    refine zm (z4 (z6 (zr (z6 ?_))))
    have hgi : z.2.1[i]? = some (gd z.2.1 i) := zJ jO
    obtain ⟨q, hq_⟩ : ∃ x, x = gd z.2.1 i := ⟨_, rfl⟩
    rw [← hq_] at hgi
    clear hq_
    have hgr : (z.2.1.map ptC)[i]? = some (ptC q) := zU hgi
    have hq32 := q.1.2
    have hq33 := ptC_len q
    refine z8 (yI (i := i) rfl x7 sz51 rfl rfl qM jR qG (fun b62 o62 => ?_))
    refine zp rfl ag51 rfl (x8 qM hq33) ?_
    refine zL rfl ze51 (fun b12 => ?_)
    refine zE ag51 rfl rfl qL qO qU qW ?_
    refine z7 (y1 (A := cl b12 51 (ptC q)) qP ?_)
    refine z4 ?_
    obtain ⟨j, hj⟩ : ∃ j : Nat, (z.1 : Int) - 1 = (j : Int) := ⟨z.1 - 1, by omega⟩
    have hIH := IH mi hI.ok (uop_lt hgo hwt.2.2.2 hI.op) j q jO
    refine z8 (z5 rfl rfl (zp rfl ag51 rfl qN ?_))
    refine zj rfl fo49_0 rfl ?_
    refine zh rfl sc3 rfl qC ?_
    refine y7 rfl rfl rfl jO ?_
    refine zv (t := 68) (u := .int .i64 (j : Int)) rfl (congrArg (Value.int .i64) hj) ?_
    refine z5 rfl rfl (zx rfl (ev4 rfl rfl rfl rfl) qD qS (hIH) ?_)
    rintro _ _ _ ⟨mr, rfl, hbp, rfl, rfl⟩
    refine zt qA qA ?_
    refine z7 (zI (z4 (z8 (zH rfl rfl rfl jO ?_))))
    exact z5 rfl rfl (z7 (z4 (zM ⟨i + 1, mr, ⟨by omega, hI.next hgi hgo hwt.1 hwt.2.1 hz hwt.2.2.1 (by rw [hj]; exact hbp)⟩, rfl, rfl, rfl, rfl⟩ qI (.c 60 rfl <| za _) (.c 0 rfl <| .c 3 rfl <| .c 10 rfl <| .c 58 rfl <| .c 59 rfl <| za _) qD qD qF)))
   ·try simp only [dq] at h61
    obtain rfl : kn = i := by omega
    exact zR (zq (zq (zS (yW (by simp) rfl ⟨_, rfl, hI.fin jO hgo hz, rfl, rfl⟩ qD qF))))
theorem below_nat {a : Option Addr} {n c sm : Nat} {os : List Ob} (hn : n ≤ 1000000) (hs : Shf os) (k : Nat) : ∀ ml : SnM, OkM ml → uop os ml = k → ∀ (lv : Int) (p : Pt), -1 ≤ lv ∧ lv ≤ 8 → Spec Tryz.prog 59 [.iface 26 (.agg #[.slice a n c]), .agg (ptC p).toArray, .int .i64 lv, .map (some sm)] [rsl 34 a n c (os.map obC)] [mp sm aK iK ml] (fun v D' M' => ∃ mr : SnM, v = .tuple #[] ∧ BelP os p lv ml mr ∧ D' = [] ∧ M' = [mp sm aK iK mr]) := by
 induction k using Nat.strongRecOn with
 | ind k ih => exact fun ml hk he lv p hl => below_step hn hs hl hk fun mj hj hu j q h7 => ih _ jO mj hj rfl (j : Int) q jO
theorem below_spec {a : Option Addr} {n c sm : Nat} {os : List Ob} {p : Pt} {ml : SnM} (hn : n ≤ 1000000) (hs : Shf os) (hk : OkM ml) : Spec Tryz.prog 59 [.iface 26 (.agg #[.slice a n c]), .agg (ptC p).toArray, .int .i64 (-1), .map (some sm)] [rsl 34 a n c (os.map obC)] [mp sm aK iK ml] (fun v D' M' => ∃ mr : SnM, v = .tuple #[] ∧ BelP os p (-1) ml mr ∧ D' = [] ∧ M' = [mp sm aK iK mr]) := below_nat hn hs _ ml hk rfl (-1) p jD
end Cv
set_option maxRecDepth 10000
namespace Cv
open Go Go.Proofs
/-! ## the objects of paths: all of them -/
theorem Bel.dn {os : List Ob} {ml : SnM} {p q : Pt} {lv k : Int} (h : Bel os p lv q k) (d : Dn os ml p lv) (cl : ∀ x, opn ml x → PDn os ml x) : Dn os ml q k := by
  induction h with
  | base => exact d
  | step _ g h0 h2 he m ih =>
    rcases ih with ih | ih
    · rw [g] at ih; cases ih
    · exact cl _ (ih.2 ⟨h0, _, g, h2, he⟩) _ g _ m
def ObM (os : List Ob) (l : List ID32) (z : ID32) : Prop := ∃ x ∈ l, (lkR os x).2.2 = true ∧ (z = x ∨ Blw os (lkR os x).1 (-1) z)
structure ObI (os : List Ob) (l : List ID32) (i : Nat) (ml : SnM) : Prop where
  ok : OkM ml
  cl : ∀ x, opn ml x → PDn os ml x
  dn : ∀ x ∈ l.take i, (lkR os x).2.2 = true → kIn ml x ∧ Dn os ml (lkR os x).1 (-1)
  so : ∀ z, kIn ml z → ObM os (l.take i) z
theorem ObI.start (os : List Ob) (l : List ID32) : ObI os l 0 [] := ⟨fun x => ⟨Int.le_refl _, by show (0 : Int) ≤ 2; decide⟩, fun x h => absurd h (by show ¬ (1 : Int) < 0; decide), fun x h => (by cases h), fun z h => (by cases h)⟩
theorem ObM.mono {os : List Ob} {l : List ID32} {i : Nat} {z : ID32} (h : ObM os (l.take i) z) : ObM os (l.take (i + 1)) z := by
  obtain ⟨x, hx, h⟩ := h
  refine ⟨x, ?_, h⟩
  rw [List.take_add_one]; exact List.mem_append_left _ hx
theorem ObI.skip {os : List Ob} {l : List ID32} {i : Nat} {ml : SnM} {x : ID32} (h : ObI os l i ml) (g : l[i]? = some x) (k : (lkR os x).2.2 = false) : ObI os l (i + 1) ml := by
  refine ⟨h.ok, h.cl, fun y hy c => ?_, fun z hz => (h.so z hz).mono⟩
  rw [List.take_add_one, g] at hy
  rcases List.mem_append.1 hy with e | e
  · exact h.dn y e c
  · obtain rfl : y = x := by simpa using e
    rw [k] at c; cases c
theorem ok_mark {ml : SnM} {x : ID32} (h : OkM ml) : OkM (put ml x (max (val0 ml x) 1)) := fun y => by
  have := h x
  rw [val0_put]; split
  · omega
  · exact h y
theorem opn_mark {ml : SnM} {x y : ID32} : opn (put ml x (max (val0 ml x) 1)) y ↔ opn ml y := by
  unfold opn
  rw [val0_put]; split
  · rename_i e; subst e; omega
  · exact Iff.rfl
theorem ObI.next {os : List Ob} {l : List ID32} {i : Nat} {ml mr : SnM} {x : ID32} (h : ObI os l i ml) (g : l[i]? = some x) (k : (lkR os x).2.2 = true) (b : BelP os (lkR os x).1 (-1) (put ml x (max (val0 ml x) 1)) mr) : ObI os l (i + 1) mr := by
  have hk : ∀ z, kIn ml z → kIn mr z := fun z hz => b.ky z (kIn_put.2 (.inl hz))
  have ho : ∀ z, opn ml z → opn mr z := fun z hz => b.op z (opn_mark.2 hz)
  refine ⟨b.ok, fun y hy => ?_, fun y hy c => ?_, fun z hz => ?_⟩
  · by_cases e : opn ml y
    · exact fun o go q hq => (h.cl y e o go q hq).mono hk ho
    · exact b.cl y hy fun c => e (opn_mark.1 c)
  · rw [List.take_add_one, g] at hy
    rcases List.mem_append.1 hy with e | e
    · exact ⟨hk _ (h.dn y e c).1, (h.dn y e c).2.mono hk ho⟩
    · obtain rfl : y = x := by simpa using e
      exact ⟨b.ky _ (kIn_put.2 (.inr rfl)), b.dn⟩
  · have hx : x ∈ l.take (i + 1) := by rw [List.take_add_one, g]; simp
    by_cases e : kIn (put ml x (max (val0 ml x) 1)) z
    · rcases kIn_put.1 e with e | e
      · exact (h.so z e).mono
      · exact ⟨x, hx, k, .inl e⟩
    · exact ⟨x, hx, k, .inr (b.so z hz e)⟩
structure ObF (os : List Ob) (l us : List ID32) : Prop where
  asc : us.Pairwise (fun x y => x.1 < y.1)
  mem : ∀ z, z ∈ us ↔ ObM os l z
theorem ObF.uniq {os : List Ob} {l us vs : List ID32} (h : ObF os l us) (k : ObF os l vs) : us = vs := asc_uniq h.asc k.asc fun z => (h.mem z).trans (k.mem z).symm
theorem ObI.fin {os : List Ob} {l us : List ID32} {i : Nat} {ml : SnM} (h : ObI os l i ml) (hi : l.length ≤ i) (k : KeysF (ml.map Prod.fst) us) : ObF os l us := by
  have hd := h.dn
  have hs := h.so
  rw [List.take_of_length_le hi] at hd hs
  refine ⟨k.asc, fun z => (k.mem z).trans ⟨hs z, fun ⟨x, hx, c, e⟩ => ?_⟩⟩
  rcases e with e | ⟨q, j, b, e, g⟩
  · rw [e]; exact (hd x hx c).1
  · rcases b.dn (hd x hx c).2 h.cl with d | d
    · rw [e] at d; exact absurd d g
    · rw [← e]; exact d.1
theorem go_some {os : List Ob} {x : ID32} (h : goF os x ≠ none) : x ∈ os.map (·.2.1) := by
  cases e : goF os x with
  | none => exact absurd e h
  | some o => exact List.mem_map.2 ⟨o, (goF_mem e).1, (goF_mem e).2⟩
theorem ObM.here {os : List Ob} {l : List ID32} {z : ID32} (h : ObM os l z) : z ∈ os.map (·.2.1) := by
  obtain ⟨x, hx, c, e⟩ := h
  rcases e with e | ⟨q, j, b, e, g⟩
  · obtain ⟨o, ho, h2⟩ := lkR_mem c
    exact List.mem_map.2 ⟨o, ho, by rw [h2, e]⟩
  · exact go_some g
theorem ObI.len {os : List Ob} {l : List ID32} {i : Nat} {ml : SnM} (h : ObI os l i ml) (hn : (ml.map Prod.fst).Nodup) : ml.length ≤ os.length := by
  have := nd_len (m := os.map (·.2.1)) hn fun z hz => (h.so z hz).here
  rwa [List.length_map, List.length_map] at this
theorem ObF.len {os : List Ob} {l us : List ID32} (h : ObF os l us) : us.length ≤ os.length := by
  have := nd_len (m := os.map (·.2.1)) (asc_nd h.asc) fun z hz => ((h.mem z).1 hz).here
  rwa [List.length_map] at this

theorem objs_spec {a b : Option Addr} {n c m d : Nat} {os : List Ob} {l : List ID32} (hn : n ≤ 3000) (hs : Shf os) (hm : m ≤ 100000) : Spec Tryz.prog 19 [.iface 26 (.agg #[.slice a n c]), .slice b m d] [rsl 34 a n c (os.map obC), rsl 32 b m d (l.map iC)] [] (fun v D' M' => ∃ (a' : Option Addr) (n' c' : Nat) (us : List ID32), v = .slice a' n' c' ∧ (ObF os l us) ∧ (us.length = n') ∧ D' = [] ∧ M' = [own 32 38 a' n' c' (us.map iC)]) := by
 refine zC (n := 39) Tryz.func19 ?_
 intro σ D M
 refine yH (a := a) (len := n) (cap := c) (rows := os.map obC) qM (fun hol hoc => ?_)
 rw [List.length_map] at hol
 refine yH (a := b) (len := m) (cap := d) (rows := l.map iC) qM (fun hll hlc => ?_)
 rw [List.length_map] at hll
 refine z6 (z8 (z9 rfl rfl (z7 (z4 (z6 (z8 (L.makeMap aK iK rfl (fun sm => ?_))))))))
 refine z9 rfl rfl (z7 (z4 (z6 (z6 (z8 (z5 rfl rfl (y2 rfl zA rfl (z5 rfl rfl (z7 (z4 (zr (zX (fun K' D' M' μ => ∃ (i : Nat) (ml : SnM), (i ≤ m ∧ ObI os l i ml) ∧ K' = [(13, .int .i64 (i : Int))] ∧ D' = [] ∧ M' = [mp sm aK iK ml] ∧ μ = m - i) (.c 0 rfl <| .c 5 rfl <| .c 11 rfl <| .c 12 rfl <| za _) (⟨0, [], ⟨Nat.zero_le _, .start os l⟩, rfl, rfl, rfl, rfl⟩) (.c 13 rfl <| za _) qD qS ?_))))))))))))
 rintro K1 D1 M1 m1 ⟨i, ml, ⟨hi, hI⟩, rfl, rfl, rfl, rfl⟩
 refine zF qA qA qA ?_
 refine z6 (z8 (zQ rfl rfl rfl (z7 (z4 (z6 (zo rfl (fun h14 => ?_) (fun h14 => ?_)))))))
 ·try simp only [dq] at h14
  refine zm (z4 (z6 (zr (z6 ?_))))
  have hgx : l[i]? = some (gd l i) := zJ jO
  obtain ⟨x, hx_⟩ : ∃ z, z = gd l i := ⟨_, rfl⟩
  rw [← hx_] at hgx
  clear hx_
  have hrx : (l.map iC)[i]? = some (iC x) := zU hgx
  have hx32 := x.2
  have hx3 := zT x
  have hkx := hI.ok x
  refine z8 (yI (i := i) rfl zA zN rfl rfl qM jR qG (fun b15 o15 => ?_))
  refine zp rfl zu rfl (x8 qM hx3) ?_
  refine zL rfl ze38 (fun b7 => ?_)
  refine zE zu rfl rfl qL qO qU qW ?_
  refine z7 (y1 (A := cl b7 38 (iC x)) qP ?_)
  refine z4 (z6 (z8 (z5 rfl rfl (zp rfl zu rfl qN ?_))))
  refine zx rfl (ev2 rfl rfl) qD qS (look_spec (os := os) (x := x) jO hs) ?_
  rintro _ _ _ ⟨ka, kn, kc, rfl, hkn, rfl, rfl⟩
  refine zt qA qA ?_
  have hin := inC_len (lkR os x).1 ka kn kc
  have hp32 := (lkR os x).1.1.2
  refine z5 rfl rfl (zG rfl rfl rfl (zG rfl rfl rfl (zL rfl ze54 (fun b8 => ?_))))
  refine zE y9 rfl rfl qL qO qU qW ?_
  refine z9 rfl rfl (z7 (y1 (A := cl b8 54 (inC (lkR os x).1 ka kn kc)) qP ?_))
  refine z4 (z6 (z8 (z5 rfl rfl (z7 (z4 (zo rfl (fun h23 => ?_) (fun h23 => ?_)))))))
  ·try simp only [dq] at h23
   refine z6 (yt (clsL [1, 1, 1, 1, 2, 1, 2]) qk ?_)
   refine ze 0 rfl rfl (z5 rfl rfl (zd (ze 1 rfl rfl (zp rfl zu rfl qN ?_))))
   refine zd (ze 2 rfl rfl (z5 rfl rfl (zd (ze 3 rfl rfl (zp rfl zu rfl qN ?_)))))
   refine zd (zy 4 rfl (L.lookup1 (kenc := aK) (venc := iK) (l := ml) (k := x) rfl xm (yp yf zY sc5) zv3 rfl rfl qM ?_))
   refine zv (t := 28) (u := .int .i64 (val0 (ml) (x))) rfl (by unfold val0; cases look (ml) (x) <;> rfl) ?_
   refine zw rfl qD ?_
   refine ze 5 rfl rfl (L.maxI rfl rfl rfl ?_)
   refine zd (zy 6 rfl (L.mapUpdate (kenc := aK) (venc := iK) (l := ml) (k := x) (v := max (val0 ml x) 1) xm (yp yf zY sc5) rfl rfl rfl rfl qP ?_))
   refine zw rfl qD ?_
   refine y6 qk ?_
   refine z4 (z8 (z5 rfl rfl (zj rfl fo54_0 rfl ?_)))
   refine zp rfl ag51 rfl (CellsN.ofF qM (at_pt _ _ _ _)) ?_
   refine z5 rfl rfl (zx rfl (ev4 rfl rfl rfl rfl) qD qS (below_spec (os := os) (p := (lkR os x).1) (ml := (put ml x (max (val0 ml x) 1))) jO hs (ok_mark hI.ok)) ?_)
   rintro _ _ _ ⟨mr, rfl, hbp, rfl, rfl⟩
   refine zt qA qA ?_
   refine z7 (zI (z4 (z8 (zH rfl rfl rfl jO ?_))))
   exact z5 rfl rfl (z7 (z4 (zM ⟨i + 1, mr, ⟨by omega, hI.next hgx h23 hbp⟩, rfl, rfl, rfl, rfl⟩ qI (.c 13 rfl <| za _) (.c 0 rfl <| .c 5 rfl <| .c 11 rfl <| .c 12 rfl <| za _) qD qD qF)))
  ·try simp only [dq] at h23
   refine zm (zI (z4 (z8 (zH rfl rfl rfl jO ?_))))
   exact z5 rfl rfl (z7 (z4 (zM ⟨i + 1, ml, ⟨by omega, hI.skip hgx h23⟩, rfl, rfl, rfl, rfl⟩ qI (.c 13 rfl <| za _) (.c 0 rfl <| .c 5 rfl <| .c 11 rfl <| .c 12 rfl <| za _) qD qD qF)))
 ·try simp only [dq] at h14
  obtain rfl : m = i := by omega
  refine T.mpNodup (kenc := aK) (venc := iK) qM (fun hnd => ?_)
  have hml := hI.len hnd
  refine zR (zq (zq (zS (z4 (z6 (z8 (z5 rfl rfl (zx rfl (ev1 rfl) qD qS (keysfR_spec) ?_))))))))
  rintro _ _ _ ⟨kc, rfl, rfl, rfl⟩
  refine zt qA qA ?_
  refine zx rfl (ev2 rfl rfl) qD qS (sortedGR_spec (keys_iterR (ml := ml) (m := sm) (c := kc)) (fun pre x h => by omega) (fun xs h => by have := h.length_eq; rw [List.length_map] at this; omega)) ?_
  rintro _ _ _ ⟨ga, gn, gc, xs, us, rfl, hxs, hup, hus, hun, rfl, rfl⟩
  refine zt qA qA ?_
  exact z9 rfl rfl (z7 (z4 (zi (zz rfl rfl ⟨_, _, _, us, rfl, hI.fin jO (keys_of hnd hxs hup hus), hun, rfl, rfl⟩ qD qF))))
end Cv
