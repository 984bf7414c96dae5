/-
  The walks: whole paths.
-/
import Derived.Test.YtahkbpiinbepcaaGreatBB15
import Derived.Test.YtahkbpiinbepcaaGreatProg
import Derived.KernelRfl
set_option linter.unusedVariables false
set_option linter.unusedSimpArgs false
set_option linter.unusedSectionVars false
set_option maxHeartbeats 400000
set_option maxRecDepth 10000
namespace Cv
open Go Go.Proofs
/-! ## whole paths -/
def fstE (f : Pt → Int) : List Pt → Int
  | [] => 0
  | p :: ps => if f p ≠ 0 then f p else fstE f ps
theorem fstE_hit {f : Pt → Int} : ∀ {ps : List Pt} {i : Nat} {p : Pt}, (∀ y ∈ ps.take i, f y = 0) → ps[i]? = some p → f p ≠ 0 → fstE f ps = f p
  | [], _, _, _, h, _ => by simp at h
  | q :: ps, 0, p, _, h, e => by
    obtain rfl : q = p := by simpa using h
    rw [fstE, if_pos e]
  | q :: ps, i + 1, p, hn, h, e => by
    rw [fstE, if_neg (fun z => z (hn q (by simp)))]
    exact fstE_hit (i := i) (fun y hy => hn y (by rw [List.take_succ_cons]; exact List.mem_cons_of_mem _ hy)) (by simpa using h) e
theorem fstE_ok {f : Pt → Int} : ∀ {ps : List Pt}, (∀ y ∈ ps, f y = 0) → fstE f ps = 0
  | [], _ => rfl
  | q :: ps, h => by rw [fstE, if_neg (fun z => z (h q (by simp)))]; exact fstE_ok fun y hy => h y (by simp [hy])
theorem fstE_congr {f g : Pt → Int} : ∀ {ps : List Pt}, (∀ y ∈ ps, f y = g y) → fstE f ps = fstE g ps
  | [], _ => rfl
  | q :: ps, h => by rw [fstE, fstE, h q (by simp), fstE_congr fun y hy => h y (by simp [hy])]
theorem fst_snoc {f : Pt → Int} {i : Nat} {ps : List Pt} {p : Pt} (h : ps[i]? = some p) (hn : ∀ y ∈ ps.take i, f y = 0) (e : f p = 0) : ∀ y ∈ ps.take (i + 1), f y = 0 := fun y hy => by
  rw [List.take_add_one, h] at hy
  rcases List.mem_append.1 hy with q | q
  · exact hn y q
  · obtain rfl : y = p := by simpa using q
    exact e
def whF (os : List Ob) : Nat → Int → Pt → Int
  | 0, _, _ => 0
  | f + 1, lv, p =>
    match goF os p.1 with
    | none => 7
    | some o =>
      if lv = 0 then (if o.1 ≠ 1 ∨ ((o.2.2.length : Nat) : Int) ≠ p.2 then 2 else 0)
      else if o.1 ≠ 2 then 2
      else if (nodR o.2.2).2.2 ≠ 0 then (nodR o.2.2).2.2
      else if (0 < lv ∧ (((nodR o.2.2).1 : Nat) : Int) ≠ lv) ∨ sizeP (nodR o.2.2).2.1 ≠ p.2 then 2
      else fstE (whF os f ((((nodR o.2.2).1 : Nat) : Int) - 1)) (nodR o.2.2).2.1
def Enf (f : Nat) (lv : Int) : Prop := (0 ≤ lv ∧ lv < f) ∨ (lv = -1 ∧ 10 ≤ f)
theorem whF_eq (os : List Ob) : ∀ (f g : Nat) (lv : Int) (p : Pt), Enf f lv → Enf g lv → whF os f lv p = whF os g lv p
  | 0, g, lv, p, h, _ => by unfold Enf at h; omega
  | f + 1, 0, lv, p, _, h => by unfold Enf at h; omega
  | f + 1, g + 1, lv, p, h, k => by
    unfold Enf at h k
    rw [whF, whF]
    cases goF os p.1 with
    | none => rfl
    | some o =>
      by_cases c0 : lv = 0
      · simp only [if_pos c0]
      · simp only [if_neg c0]
        split
        · rfl
        · split
          · rfl
          · rename_i c1 c2
            split
            · rfl
            · rename_i c3
              have hk := chkN_0 (nodR_ok (Decidable.not_not.1 c2))
              refine fstE_congr fun q hq => whF_eq os f g _ q ?_ ?_
              · unfold Enf; omega
              · unfold Enf; omega
def wh (os : List Ob) (lv : Int) (p : Pt) : Int := whF os 10 lv p
theorem wh_none {os : List Ob} {lv : Int} {p : Pt} (h : goF os p.1 = none) : wh os lv p = 7 := by
  unfold wh; rw [whF, h]
theorem wh_0 {os : List Ob} {p : Pt} {o : Ob} (h : goF os p.1 = some o) : wh os 0 p = if o.1 ≠ 1 ∨ ((o.2.2.length : Nat) : Int) ≠ p.2 then 2 else 0 := by
  unfold wh; rw [whF, h]; simp only [if_pos]
theorem wh_k {os : List Ob} {lv : Int} {p : Pt} {o : Ob} (h : goF os p.1 = some o) (h0 : lv ≠ 0) (h2 : o.1 ≠ 2) : wh os lv p = 2 := by
  unfold wh; rw [whF, h]; simp only [if_neg h0, if_pos h2]
theorem wh_e {os : List Ob} {lv : Int} {p : Pt} {o : Ob} {z : Nat × List Pt × Int} (h : goF os p.1 = some o) (h0 : lv ≠ 0) (h2 : o.1 = 2) (hz : z = nodR o.2.2) (he : z.2.2 ≠ 0) : wh os lv p = z.2.2 := by
  subst hz
  unfold wh; rw [whF, h]; simp only [if_neg h0, if_neg (show ¬ o.1 ≠ 2 from fun q => q h2), if_pos he]
theorem wh_s {os : List Ob} {lv : Int} {p : Pt} {o : Ob} {z : Nat × List Pt × Int} (h : goF os p.1 = some o) (h0 : lv ≠ 0) (h2 : o.1 = 2) (hz : z = nodR o.2.2) (he : z.2.2 = 0) (hs : (0 < lv ∧ ((z.1 : Nat) : Int) ≠ lv) ∨ sizeP z.2.1 ≠ p.2) : wh os lv p = 2 := by
  subst hz
  unfold wh; rw [whF, h]; simp only [if_neg h0, if_neg (show ¬ o.1 ≠ 2 from fun q => q h2), if_neg (show ¬ (nodR o.2.2).2.2 ≠ 0 from fun q => q he), if_pos hs]
theorem wh_n {os : List Ob} {lv : Int} {p : Pt} {o : Ob} {z : Nat × List Pt × Int} (hl : -1 ≤ lv ∧ lv ≤ 8) (h : goF os p.1 = some o) (h0 : lv ≠ 0) (h2 : o.1 = 2) (hz : z = nodR o.2.2) (he : z.2.2 = 0) (hs : ¬ ((0 < lv ∧ ((z.1 : Nat) : Int) ≠ lv) ∨ sizeP z.2.1 ≠ p.2)) : wh os lv p = fstE (wh os (((z.1 : Nat) : Int) - 1)) z.2.1 := by
  subst hz
  have hk := chkN_0 (nodR_ok he)
  unfold wh; rw [whF, h]; simp only [if_neg h0, if_neg (show ¬ o.1 ≠ 2 from fun q => q h2), if_neg (show ¬ (nodR o.2.2).2.2 ≠ 0 from fun q => q he), if_neg hs]
  refine fstE_congr fun q _ => whF_eq os 9 10 _ q ?_ ?_
  · unfold Enf; omega
  · unfold Enf; omega
def whE (os : List Ob) (x : ID32) : Int := if (lkR os x).2.2 = true then wh os (-1) (lkR os x).1 else 7
theorem at_pt (p : Pt) (a : Option Addr) (n c : Nat) : AtN 33 (inC p a n c) 0 (ptC p) := by
  rw [show inC p a n c = ptC p ++ [.slice a n c] from by simp]; exact AtN.left (ptC_len p)

theorem whole_step {a : Option Addr} {n c : Nat} {os : List Ob} {lv : Int} {p : Pt} (hn : n ≤ 1000000) (hs : Shf os) (hl : -1 ≤ lv ∧ lv ≤ 8) (IH : ∀ j : Nat, (lv = -1 ∨ (j : Int) < lv) → j ≤ 7 → ∀ q : Pt, Spec Tryz.prog 61 [.iface 26 (.agg #[.slice a n c]), .agg (ptC q).toArray, .int .i64 (j : Int)] [rsl 34 a n c (os.map obC)] [] (fun v D' M' => v = .int .i64 (wh os (j : Int) q) ∧ D' = [] ∧ M' = [])) : Spec Tryz.prog 61 [.iface 26 (.agg #[.slice a n c]), .agg (ptC p).toArray, .int .i64 lv] [rsl 34 a n c (os.map obC)] [] (fun v D' M' => v = .int .i64 (wh os lv p) ∧ D' = [] ∧ M' = []) := by
 refine zC (n := 88) Tryz.func61 ?_
 intro σ D M
 have hp32 := p.1.2
 have hp33 := ptC_len p
 refine z6 (z8 (yq rfl rfl rfl (fun b4 => ?_)))
 refine z9 rfl rfl (z7 (y1 (A := cl b4 51 (ptC p)) qP ?_))
 refine z4 (z6 (z8 (z5 rfl rfl (zj rfl fo51_0 rfl ?_))))
 refine zp rfl zu rfl qN ?_
 refine L.inv rfl rfl mthG (ev1 rfl) qD qS (get_spec (os := os) (x := p.1) hn) ?_
 rintro _ _ _ ⟨rfl, rfl, rfl⟩
 refine zt qA qA ?_
 obtain ⟨o, ho⟩ : ∃ o, o = getO os p.1 := ⟨_, rfl⟩
 obtain ⟨e, he⟩ : ∃ e, e = getE os p.1 := ⟨_, rfl⟩
 have hos := hs.get p.1
 rw [← ho] at hos ⊢
 rw [← he]
 have ho33 := obC_len o
 have ho32 := o.2.1.2
 refine z5 rfl rfl (zG rfl rfl rfl (zG rfl rfl rfl (zL rfl ze45 (fun b7 => ?_))))
 refine zE ag45 rfl rfl qL qO qU qW ?_
 refine z9 rfl rfl (z7 (y1 (A := cl b7 45 (obC o)) qP ?_))
 refine z4 (z6 (zr (z6 (z8 (z5 rfl rfl (yx rfl rfl rfl (z9 rfl rfl (z7 (z4 (zo rfl (fun h20 => ?_) (fun h20 => ?_)))))))))))
 ·try simp only [dq] at h20
  exact z6 (z8 (z5 rfl rfl (z9 rfl rfl (z7 (z4 (zi (y3 (zD (zz rfl rfl ⟨by rw [wh_none (getE_7 (by rw [← he]; exact h20)), he, getE_miss (getE_7 (by rw [← he]; exact h20))], rfl, rfl⟩ qD qF)))))))))
 ·try simp only [dq] at h20
  have hgo : goF os p.1 = some o := by rw [ho]; exact getE_0 (by rw [← he]; exact Decidable.not_not.1 h20)
  refine z6 (yu (fun K' D' M' => ∃ (w : Bool), (w = true ↔ (lv = 0 ∧ (o.1 ≠ 1 ∨ ((o.2.2.length : Nat) : Int) ≠ p.2))) ∧ K' = [(24, .bool w)] ∧ D' = [] ∧ M' = []) (M0 := []) (.c 0 rfl <| .c 2 rfl <| .c 4 rfl <| .c 7 rfl <| za _) qS ?_ ?_)
  ·skip
   refine z8 (z5 rfl rfl (yj rfl rfl rfl (z5 rfl rfl (yM (t := 27) rfl (fun h1 => ?_) (fun h1 => ?_)))))
   ·try simp only [dq] at h1
    refine zf (dj := 27) rfl rfl rfl (zj rfl fo45_0 rfl ?_)
    refine zf (dj := 27) rfl rfl rfl (zh rfl sc3 rfl qC ?_)
    refine zf (dj := 27) rfl rfl rfl (yx rfl rfl rfl (zf (dj := 27) rfl rfl rfl (z5 rfl rfl (yM (t := 31) rfl (fun h2 => ?_) (fun h2 => ?_)))))
    ·try simp only [dq] at h2
     exact zg (dj := 31) (c := true) rfl rfl rfl rfl rfl jD (zg (dj := 31) (c := true) rfl rfl rfl rfl rfl jD (zg (dj := 31) (c := true) rfl rfl rfl rfl rfl jD (zg (dj := 31) (c := true) rfl rfl rfl rfl rfl jD (zg (dj := 31) (c := true) rfl rfl rfl rfl rfl jD (zg (dj := 31) (c := true) rfl rfl rfl rfl rfl jD (zf (dj := 27) rfl rfl rfl (ye rfl rfl rfl (ye rfl rfl rfl (z9 rfl rfl (z7 (z4 (zK ⟨_, (by simp_all), rfl, rfl, rfl⟩ (.c 24 rfl <| za _) (.c 0 rfl <| .c 2 rfl <| .c 4 rfl <| .c 7 rfl <| za _) qD qD qF))))))))))))
    ·try simp only [dq] at h2
     refine zf (dj := 31) rfl rfl rfl (zj rfl fo45_2 rfl ?_)
     refine zf (dj := 31) rfl rfl rfl (zh rfl sc9 rfl qC ?_)
     refine zf (dj := 31) rfl rfl rfl (xj rfl yy rfl (zf (dj := 31) rfl rfl rfl (zj rfl fo51_1 rfl ?_)))
     refine zf (dj := 31) rfl rfl rfl (zh rfl sc3 rfl qC ?_)
     exact zf (dj := 31) rfl rfl rfl (yx rfl rfl rfl (zf (dj := 27) rfl rfl rfl (y5 rfl rfl rfl (ye rfl rfl rfl (z9 rfl rfl (z7 (z4 (zK ⟨_, (by simp_all), rfl, rfl, rfl⟩ (.c 24 rfl <| za _) (.c 0 rfl <| .c 2 rfl <| .c 4 rfl <| .c 7 rfl <| za _) qD qD qF))))))))
   ·try simp only [dq] at h1
    exact zg (dj := 27) (c := false) rfl rfl rfl rfl rfl jD (zg (dj := 27) (c := false) rfl rfl rfl rfl rfl jD (zg (dj := 27) (c := false) rfl rfl rfl rfl rfl jD (zg (dj := 27) (c := false) rfl rfl rfl rfl rfl jD (xq (dj := 31) rfl rfl rfl rfl rfl (xq (dj := 31) rfl rfl rfl rfl rfl (xq (dj := 31) rfl rfl rfl rfl rfl (xq (dj := 31) rfl rfl rfl rfl rfl (xq (dj := 31) rfl rfl rfl rfl rfl (xq (dj := 31) rfl rfl rfl rfl rfl (zg (dj := 27) (c := false) rfl rfl rfl rfl rfl jD (y5 rfl rfl rfl (z9 rfl rfl (z7 (z4 (zK ⟨_, (by simp_all), rfl, rfl, rfl⟩ (.c 24 rfl <| za _) (.c 0 rfl <| .c 2 rfl <| .c 4 rfl <| .c 7 rfl <| za _) qD qD qF)))))))))))))))
  rintro _ _ _ ⟨w, hw, rfl, rfl, rfl⟩
  refine zF qA qA qA ?_
  refine z4 (zo rfl (fun h24 => ?_) (fun h24 => ?_))
  ·try simp only [dq] at h24
   refine z6 (z8 (z9 rfl rfl (z7 (z4 (zi (y3 (zD ?_)))))))
   obtain ⟨rfl, hwt⟩ := hw.1 h24
   exact zz rfl rfl ⟨by rw [wh_0 hgo, if_pos hwt], rfl, rfl⟩ qD qF
  ·try simp only [dq] at h24
   have hwf : ¬ (lv = 0 ∧ (o.1 ≠ 1 ∨ ((o.2.2.length : Nat) : Int) ≠ p.2)) := fun e => by have := hw.2 e; rw [h24] at this; cases this
   refine z6 (z8 (z5 rfl rfl (yj rfl rfl rfl (z9 rfl rfl (z7 (z4 (zo rfl (fun h40 => ?_) (fun h40 => ?_))))))))
   ·try simp only [dq] at h40
    refine z6 (z8 (z9 rfl rfl (z7 (z4 (zi (y3 (zD ?_)))))))
    obtain rfl : lv = 0 := h40
    exact zz rfl rfl ⟨by rw [wh_0 hgo, if_neg (fun q => hwf ⟨rfl, q⟩)], rfl, rfl⟩ qD qF
   ·try simp only [dq] at h40
    refine z6 (z8 (zj rfl fo45_0 rfl ?_))
    refine zh rfl sc3 rfl qC ?_
    refine yx rfl rfl rfl (z9 rfl rfl (z7 (z4 (zo rfl (fun h43 => ?_) (fun h43 => ?_)))))
    ·try simp only [dq] at h43
     exact z6 (z8 (z9 rfl rfl (z7 (z4 (zi (y3 (zD (zz rfl rfl ⟨by rw [wh_k hgo h40 h43], rfl, rfl⟩ qD qF))))))))
    ·try simp only [dq] at h43
     have hk2 : o.1 = 2 := Decidable.not_not.1 h43
     refine zm (zI (z4 (z6 (z8 (zj rfl fo45_2 rfl ?_)))))
     refine zh rfl sc9 rfl qC ?_
     refine zx rfl (ev1 rfl) qD qS (nparse_spec (s := o.2.2) jO) ?_
     rintro _ _ _ ⟨ka, kn, kc, rfl, hkn, rfl, rfl⟩
     refine zt qA qA ?_
     have hz8 := nodR_len o.2.2
     have hzi := nodR_in o.2.2
     have hzo := @nodR_ok o.2.2
     obtain ⟨z, hz⟩ : ∃ z, z = nodR o.2.2 := ⟨_, rfl⟩
     rw [← hz] at hkn hz8 hzi hzo ⊢
     refine z5 rfl rfl (zG rfl rfl rfl (zG rfl rfl rfl (zL rfl ze49 (fun b9 => ?_))))
     refine zE ag49 rfl rfl qL qO qU qW ?_
     refine z9 rfl rfl (z7 (y1 (A := cl b9 49 [.int .i64 (z.1 : Int), .slice ka kn kc]) qP ?_))
     refine z4 (z6 (zr (z6 (z8 (z5 rfl rfl (yx rfl rfl rfl (z9 rfl rfl (z7 (z4 (zo rfl (fun h53 => ?_) (fun h53 => ?_)))))))))))
     ·try simp only [dq] at h53
      exact z6 (z8 (z5 rfl rfl (z9 rfl rfl (z7 (z4 (zi (y3 (zD (zz rfl rfl ⟨by rw [wh_e hgo h40 hk2 hz h53], rfl, rfl⟩ qD qF)))))))))
     ·try simp only [dq] at h53
      have hze : z.2.2 = 0 := Decidable.not_not.1 h53
      have hz1 := chkN_0 (hzo hze)
      refine z6 (z6 (yu (fun K' D' M' => ∃ (w : Bool), (w = true ↔ (0 < lv ∧ ((z.1 : Nat) : Int) ≠ lv)) ∧ K' = [(57, .bool w)] ∧ D' = [] ∧ M' = []) (M0 := []) (.c 0 rfl <| .c 4 rfl <| .c 9 rfl <| za _) qS ?_ ?_))
      ·skip
       refine z8 (z5 rfl rfl (yB rfl rfl rfl (z5 rfl rfl (yM (t := 60) rfl (fun h3 => ?_) (fun h3 => ?_)))))
       ·try simp only [dq] at h3
        refine zf (dj := 60) rfl rfl rfl (zj rfl fo49_0 rfl ?_)
        refine zf (dj := 60) rfl rfl rfl (zh rfl sc3 rfl qC ?_)
        exact zf (dj := 60) rfl rfl rfl (z5 rfl rfl (zf (dj := 60) rfl rfl rfl (yx rfl rfl rfl (ye rfl rfl rfl (z9 rfl rfl (z7 (z4 (zK ⟨_, (by simp_all), rfl, rfl, rfl⟩ (.c 57 rfl <| za _) (.c 0 rfl <| .c 4 rfl <| .c 9 rfl <| za _) qD qD qF))))))))
       ·try simp only [dq] at h3
        exact zg (dj := 60) (c := false) rfl rfl rfl rfl rfl jD (zg (dj := 60) (c := false) rfl rfl rfl rfl rfl jD (zg (dj := 60) (c := false) rfl rfl rfl rfl rfl jD (zg (dj := 60) (c := false) rfl rfl rfl rfl rfl jD (y5 rfl rfl rfl (z9 rfl rfl (z7 (z4 (zK ⟨_, ⟨fun q => Bool.noConfusion q, fun q => by omega⟩, rfl, rfl, rfl⟩ (.c 57 rfl <| za _) (.c 0 rfl <| .c 4 rfl <| .c 9 rfl <| za _) qD qD qF))))))))
      rintro _ _ _ ⟨w, hw, rfl, rfl, rfl⟩
      refine zF qA qA qA ?_
      refine z4 (yu (fun K' D' M' => ∃ (w2 : Bool), (w2 = true ↔ ((0 < lv ∧ ((z.1 : Nat) : Int) ≠ lv) ∨ sizeP z.2.1 ≠ p.2)) ∧ K' = [(57, .bool w2)] ∧ D' = [] ∧ M' = []) (M0 := []) (.c 0 rfl <| .c 9 rfl <| za _) qS ?_ ?_)
      ·skip
       refine zo rfl (fun h57 => ?_) (fun h57 => ?_)
       ·try simp only [dq] at h57
        exact zm (z4 (zK ⟨_, (by simp_all), rfl, rfl, rfl⟩ (.c 57 rfl <| za _) (.c 0 rfl <| .c 9 rfl <| za _) qD qD qF))
       ·try simp only [dq] at h57
        refine yC qk qk (zp rfl ag49 rfl qN ?_)
        refine zW rfl (ev1 rfl) qD qS (nsize_spec (k := z.1) (ps := z.2.1) jO (fun p hp => ⟨(hzi.2 p hp).1, Int.le_trans (hzi.2 p hp).2 jD⟩)) jF ?_
        refine zj rfl fo51_1 rfl ?_
        refine zh rfl sc3 rfl qC ?_
        exact yx rfl rfl rfl (z9 rfl rfl (yA (z4 (zK ⟨_, (by simp_all), rfl, rfl, rfl⟩ (.c 57 rfl <| za _) (.c 0 rfl <| .c 9 rfl <| za _) qD qD qF))))
      rintro _ _ _ ⟨w2, hw2, rfl, rfl, rfl⟩
      refine zF qA qA qA ?_
      refine z4 (zo rfl (fun h57 => ?_) (fun h57 => ?_))
      ·try simp only [dq] at h57
       exact z6 (z8 (z9 rfl rfl (z7 (z4 (zi (y3 (zD (zz rfl rfl ⟨by rw [wh_s hgo h40 hk2 hz hze (hw2.1 h57)], rfl, rfl⟩ qD qF))))))))
      ·try simp only [dq] at h57
       refine zm (zI (z4 (z6 (z6 (z8 (zj rfl fo49_1 rfl ?_))))))
       refine zh rfl sc47 rfl qC ?_
       refine y2 rfl x7 rfl (z5 rfl rfl (z7 (z4 (zr (zX (fun K' D' M' μ => ∃ (i : Nat), (i ≤ kn ∧ ∀ y ∈ z.2.1.take i, wh os (((z.1 : Nat) : Int) - 1) y = 0) ∧ K' = [(74, .int .i64 (i : Int))] ∧ D' = [] ∧ M' = [] ∧ μ = kn - i) (.c 0 rfl <| .c 9 rfl <| .c 72 rfl <| .c 73 rfl <| za _) (⟨0, ⟨Nat.zero_le _, by simp⟩, rfl, rfl, rfl, rfl⟩) (.c 74 rfl <| za _) qD qS ?_)))))
       rintro K1 D1 M1 m1 ⟨i, ⟨hi, hno⟩, rfl, rfl, rfl, rfl⟩
       refine zF qA qA qA ?_
       have hwf2 : ¬ ((0 < lv ∧ ((z.1 : Nat) : Int) ≠ lv) ∨ sizeP z.2.1 ≠ p.2) := fun e => by have := hw2.2 e; rw [h57] at this; cases this
       have hwn := wh_n hl hgo h40 hk2 hz hze hwf2
       refine z6 (z8 (zQ rfl rfl rfl (z7 (z4 (z6 (zo rfl (fun h75 => ?_) (fun h75 => ?_)))))))
       ·try simp only [dq] at h75
        refine zm (z4 (z6 (zr (z6 ?_))))
        have hgi : z.2.1[i]? = some (gd z.2.1 i) := zJ jO
        obtain ⟨q, hq_⟩ : ∃ x, x = gd z.2.1 i := ⟨_, rfl⟩
        rw [← hq_] at hgi
        clear hq_
        have hgr : (z.2.1.map ptC)[i]? = some (ptC q) := zU hgi
        have hq32 := q.1.2
        have hq33 := ptC_len q
        refine z8 (yI (i := i) rfl x7 sz51 rfl rfl qM jR qG (fun b76 o76 => ?_))
        refine zp rfl ag51 rfl (x8 qM hq33) ?_
        refine zL rfl ze51 (fun b11 => ?_)
        refine zE ag51 rfl rfl qL qO qU qW ?_
        refine z7 (y1 (A := cl b11 51 (ptC q)) qP ?_)
        refine z4 (z6 ?_)
        obtain ⟨j, hj⟩ : ∃ j : Nat, (z.1 : Int) - 1 = (j : Int) := ⟨z.1 - 1, by omega⟩
        have hIH := IH j jO jO q
        refine z8 (z5 rfl rfl (zp rfl ag51 rfl qN ?_))
        refine zj rfl fo49_0 rfl ?_
        refine zh rfl sc3 rfl qC ?_
        refine y7 rfl rfl rfl jO ?_
        refine zv (t := 82) (u := .int .i64 (j : Int)) rfl (congrArg (Value.int .i64) hj) ?_
        refine zW rfl (ev3 rfl rfl rfl) qD qS (hIH) jF ?_
        refine z9 rfl rfl (z7 (z4 (z6 (z8 (z5 rfl rfl (yx rfl rfl rfl (z7 (z4 (zo rfl (fun h85 => ?_) (fun h85 => ?_))))))))))
        ·try simp only [dq] at h85
         exact z6 (z8 (z5 rfl rfl (z9 rfl rfl (z7 (z4 (zi (y3 (zD (zD (y3 (zD (zz rfl rfl ⟨by rw [hwn, fstE_hit hno hgi (by rw [hj]; exact h85), hj], rfl, rfl⟩ qD qF))))))))))))
        ·try simp only [dq] at h85
         refine zm (zI (z4 (z8 (zH rfl rfl rfl jO ?_))))
         exact z5 rfl rfl (z7 (z4 (zM ⟨i + 1, ⟨by omega, fst_snoc hgi hno (by rw [hj]; exact Decidable.not_not.1 h85)⟩, rfl, rfl, rfl, rfl⟩ qI (.c 74 rfl <| za _) (.c 0 rfl <| .c 9 rfl <| .c 72 rfl <| .c 73 rfl <| za _) qD qD qF)))
       ·try simp only [dq] at h75
        obtain rfl : kn = i := by omega
        rw [List.take_of_length_le jO] at hno
        exact zR (zq (zq (zS (z4 (z6 (z8 (z9 rfl rfl (z7 (z4 (zi (zz rfl rfl ⟨by rw [hwn, fstE_ok hno], rfl, rfl⟩ qD qF)))))))))))
theorem whole_nat {a : Option Addr} {n c : Nat} {os : List Ob} (hn : n ≤ 1000000) (hs : Shf os) (k : Nat) : k ≤ 8 → ∀ p : Pt, Spec Tryz.prog 61 [.iface 26 (.agg #[.slice a n c]), .agg (ptC p).toArray, .int .i64 (k : Int)] [rsl 34 a n c (os.map obC)] [] (fun v D' M' => v = .int .i64 (wh os (k : Int) p) ∧ D' = [] ∧ M' = []) := by
 induction k using Nat.strongRecOn with
 | ind k ih => exact fun hk p => whole_step hn hs jO fun j hj h7 q => ih j jO jO q
theorem whole_spec {a : Option Addr} {n c : Nat} {os : List Ob} {p : Pt} (hn : n ≤ 1000000) (hs : Shf os) : Spec Tryz.prog 61 [.iface 26 (.agg #[.slice a n c]), .agg (ptC p).toArray, .int .i64 (-1)] [rsl 34 a n c (os.map obC)] [] (fun v D' M' => v = .int .i64 (wh os (-1) p) ∧ D' = [] ∧ M' = []) :=
 whole_step hn hs jO fun j _ h7 q => whole_nat hn hs j jO q
theorem whl_spec {a : Option Addr} {n c : Nat} {os : List Ob} {x : ID32} (hn : n ≤ 1000000) (hs : Shf os) : Spec Tryz.prog 21 [.iface 26 (.agg #[.slice a n c]), .agg (iC x).toArray] [rsl 34 a n c (os.map obC)] [] (fun v D' M' => v = .int .i64 (whE os x) ∧ D' = [] ∧ M' = []) := by
 refine zC (n := 19) Tryz.func21 ?_
 intro σ D M
 have hx32 := x.2
 have hx3 := zT x
 refine z6 (z8 (yq rfl rfl rfl (fun b3 => ?_)))
 refine z9 rfl rfl (z7 (z4 (z6 (z8 (z5 rfl rfl (zp rfl zu rfl qN ?_))))))
 refine zx rfl (ev2 rfl rfl) qD qS (look_spec (os := os) (x := x) hn hs) ?_
 rintro _ _ _ ⟨ka, kn, kc, rfl, hkn, rfl, rfl⟩
 refine zt qA qA ?_
 have hin := inC_len (lkR os x).1 ka kn kc
 have hp32 := (lkR os x).1.1.2
 have hp33 := ptC_len (lkR os x).1
 refine z5 rfl rfl (zG rfl rfl rfl (zG rfl rfl rfl (zL rfl ze54 (fun b5 => ?_))))
 refine zE y9 rfl rfl qL qO qU qW ?_
 refine z9 rfl rfl (z7 (y1 (A := cl b5 54 (inC (lkR os x).1 ka kn kc)) qP ?_))
 refine z4 (z6 (z6 (z8 (z5 rfl rfl (yX rfl rfl (z7 (z4 (zo rfl (fun h14 => ?_) (fun h14 => ?_)))))))))
 ·try simp only [dq] at h14
  exact z6 (z8 (z9 rfl rfl (z7 (z4 (zi (zD (zz rfl rfl ⟨by unfold whE; rw [h14]; rfl, rfl, rfl⟩ qD qF)))))))
 ·try simp only [dq] at h14
  refine zm (z4 (z6 (z8 (z5 rfl rfl (zj rfl fo54_0 rfl ?_)))))
  refine zp rfl ag51 rfl (CellsN.ofF qM (at_pt _ _ _ _)) ?_
  refine zW rfl (ev3 rfl rfl rfl) qD qS (whole_spec (p := (lkR os x).1) hn hs) jF ?_
  exact z9 rfl rfl (z7 (z4 (zi (zz rfl rfl ⟨by unfold whE; rw [h14]; rfl, rfl, rfl⟩ qD qF))))
end Cv
