/-
  The walks: the reference of paths.
-/
import Derived.Test.YtahkbpiinbepcaaGreatOP22
import Derived.Test.YtahkbpiinbepcaaGreatNb22
import Derived.Test.YtahkbpiinbepcaaGreatProg
import Derived.KernelRfl
set_option linter.unusedVariables false
set_option linter.unusedSimpArgs false
set_option linter.unusedSectionVars false
set_option maxHeartbeats 400000
set_option maxRecDepth 10000
namespace Cv
open Go Go.Proofs
/-! ## paths, by the reference: the plain model -/
theorem one_yss {l : List (List UInt8)} : ∀ u ∈ (l.map ys).flatten, u.oneCell' = true := fun u hu => by
  obtain ⟨r, hr, hu⟩ := List.mem_flatten.1 hu
  obtain ⟨x, _, rfl⟩ := List.mem_map.1 hr
  rw [List.mem_singleton.1 hu]; rfl
def US (os : List Ob) (sn : List ID32) : Nat := (os.filter fun o => decide (o.2.1 ∉ sn)).length
theorem US_le {os : List Ob} {sn : List ID32} {x : ID32} : US os (sn ++ [x]) ≤ US os sn := by
  unfold US
  rw [← List.countP_eq_length_filter, ← List.countP_eq_length_filter]
  exact List.countP_mono_left fun o _ h => decide_eq_true fun q => of_decide_eq_true h (List.mem_append_left _ q)
theorem US_lt {os : List Ob} {sn : List ID32} {x : ID32} (h : x ∉ sn) (k : (lkR os x).2.2 = true) : US os (sn ++ [x]) + 1 ≤ US os sn := by
  obtain ⟨o, ho, he⟩ := lkR_mem k
  exact filt_lt (fun o h => decide_eq_true fun q => of_decide_eq_true h (List.mem_append_left _ q)) ⟨o, ho, decide_eq_true (by rw [he]; exact h), decide_eq_false fun q => q (List.mem_append_right _ (by rw [he]; exact List.mem_singleton.2 rfl))⟩
def pot (os : List Ob) (s : FS) : Nat := s.sn.length + 9 * US os s.sn
theorem ls_pot {os : List Ob} {g : ID32 → FS → FS × Bool} (h : ∀ x s, pot os (g x s).1 ≤ pot os s + 1) : ∀ (l : List ID32) (s : FS), pot os (lsF g l s).1 ≤ pot os s + l.length
  | [], s => Nat.le_refl _
  | r :: l, s => by
    have a := h r s
    rw [lsF, List.length_cons]
    split
    · have := ls_pot h l (g r s).1; omega
    · dsimp only; omega
theorem pot_new {os : List Ob} {s : FS} {x : ID32} {ps rs : List ID32} {ws : List Wnt} : pot os ⟨s.sn ++ [x], ps, ws, rs⟩ ≤ pot os s + 1 := by
  have := US_le (os := os) (sn := s.sn) (x := x)
  unfold pot; dsimp only; rw [List.length_append, List.length_singleton]; omega
theorem pot_kn {os : List Ob} {s : FS} {x : ID32} {ps rs : List ID32} {ws : List Wnt} (h : x ∉ s.sn) (k : (lkR os x).2.2 = true) : pot os ⟨s.sn ++ [x], ps, ws, rs⟩ + 8 ≤ pot os s := by
  have := US_lt h k
  unfold pot; dsimp only; rw [List.length_append, List.length_singleton]; omega
theorem pth_pot (os : List Ob) (tb : ID32 → Bool) : ∀ (f : Nat) (x : ID32) (s : FS), pot os (pthF os tb f x s).1 ≤ pot os s + 1
  | 0, x, s => Nat.le_add_right _ _
  | f + 1, x, s => by
    rw [pthF]
    split
    · exact Nat.le_add_right _ _
    · rename_i h
      split
      · exact pot_new
      · split
        · rename_i k
          have a := ls_pot (pth_pot os tb f) (lkR os x).2.1 ⟨s.sn ++ [x], s.ps, s.ws, s.rs⟩
          have b := pot_kn (ps := s.ps) (rs := s.rs) (ws := s.ws) h k
          have c := lkR_len os x
          have e : ∀ r : FS × Bool, pot os (knF os x (lkR os x).1 r).1 = pot os r.1 := fun r => by unfold knF; split <;> rfl
          rw [e]; omega
        · exact pot_new
def rpF (os : List Ob) (tb : ID32 → Bool) (g : Nat) (x : ID32) (s : FS) (ov : Bool) : FS × Bool := if ov = true then (s, true) else ((pthF os tb g x s).1, !(pthF os tb g x s).2)
structure RfH (os : List Ob) (s : FS) (ov : Bool) (B : Nat) : Prop where
  ok : FSok s
  le : s.ps.length ≤ 33
  go : ov = false → s.ps.length ≤ 32
  po : pot os s ≤ B
theorem RfH.next {os : List Ob} {tb : ID32 → Bool} {g : Nat} {x : ID32} {s : FS} {ov : Bool} {B : Nat} (h : RfH os s ov B) : RfH os (rpF os tb g x s ov).1 (rpF os tb g x s ov).2 (B + 1) := by
  unfold rpF
  cases ov with
  | true => rw [if_pos rfl]; exact ⟨h.ok, h.le, fun q => (by cases q), Nat.le_succ_of_le h.po⟩
  | false =>
    rw [if_neg (by decide)]
    have a := pth_ok os tb g x s h.ok (h.go rfl)
    have b := pth_pot os tb g x s
    have c := h.po
    refine ⟨a.ok, a.le, fun q => a.go ?_, by dsimp only; omega⟩
    cases e : (pthF os tb g x s).2 with
    | true => rfl
    | false => rw [e] at q; cases q
theorem RfH.mono {os : List Ob} {s : FS} {ov : Bool} {B C : Nat} (h : RfH os s ov B) (k : B ≤ C) : RfH os s ov C := ⟨h.ok, h.le, h.go, Nat.le_trans h.po k⟩
theorem RfH.lens {os : List Ob} {s : FS} {ov : Bool} {B : Nat} (h : RfH os s ov B) : s.rs.length ≤ 33 ∧ s.ws.length ≤ 24090 ∧ s.sn.length ≤ B := by
  have a := h.ok.lens h.le
  have b := h.po
  unfold pot at b
  exact ⟨a.1, a.2, by omega⟩
theorem rp_stop {os : List Ob} {tb : ID32 → Bool} {g : Nat} {x : ID32} {s : FS} {ov : Bool} {dp : Int} (h : ov = true ∨ x ∈ s.sn ∨ 40 < dp) (k : dp + (g : Int) = 41) : rpF os tb g x s ov = (s, ov) := by
  unfold rpF
  cases ov with
  | true => rw [if_pos rfl]
  | false =>
    rw [if_neg (by decide)]
    match g, k with
    | 0, _ => rfl
    | g + 1, k =>
      rcases h with h | h | h
      · cases h
      · rw [fp_s h]; rfl
      · omega
theorem rp_go {os : List Ob} {tb : ID32 → Bool} {g : Nat} {x : ID32} {s : FS} : rpF os tb g x s false = ((pthF os tb g x s).1, !(pthF os tb g x s).2) := rfl
theorem rp_th {os : List Ob} {tb : ID32 → Bool} {g : Nat} {x : ID32} {s : FS} (h : x ∉ s.sn) (k : tb x = true) : rpF os tb (g + 1) x s false = (⟨s.sn ++ [x], s.ps, s.ws, s.rs⟩, false) := by rw [rp_go, fp_t h k]; rfl
structure RpI (os : List Ob) (tb : ID32 → Bool) (g : Nat) (x : ID32) (s s4 : FS) (ov4 : Bool) : Prop where
  kn : (lkR os x).2.2 = true → lsF (pthF os tb g) (lkR os x).2.1 ⟨s.sn ++ [x], s.ps, s.ws, s.rs⟩ = (s4, !ov4)
  un : (lkR os x).2.2 = false → ov4 = false ∧ s4 = ⟨s.sn ++ [x], s.ps, ndW os s.ws (3, x, 294), s.rs⟩
theorem RpI.ofU {os : List Ob} {tb : ID32 → Bool} {g : Nat} {x : ID32} {s s4 : FS} (h : (lkR os x).2.2 = false) (e : s4 = ⟨s.sn ++ [x], s.ps, ndW os s.ws (3, x, 294), s.rs⟩) : RpI os tb g x s s4 false := ⟨fun q => (by rw [h] at q; cases q), fun _ => ⟨rfl, e⟩⟩
theorem RpI.ofK {os : List Ob} {tb : ID32 → Bool} {g : Nat} {x : ID32} {s s4 : FS} {ov4 : Bool} (h : (lkR os x).2.2 = true) (e : lsF (pthF os tb g) (lkR os x).2.1 ⟨s.sn ++ [x], s.ps, s.ws, s.rs⟩ = (s4, !ov4)) : RpI os tb g x s s4 ov4 := ⟨fun _ => e, fun q => by rw [h] at q; cases q⟩
theorem RpI.over {os : List Ob} {tb : ID32 → Bool} {g : Nat} {x : ID32} {s s4 : FS} (h : RpI os tb g x s s4 true) (hx : x ∉ s.sn) (ht : tb x = false) : rpF os tb (g + 1) x s false = (s4, true) := by
  cases e : (lkR os x).2.2 with
  | true => rw [rp_go, fp_k hx ht e, h.kn e]; rfl
  | false => exact absurd (h.un e).1 (by decide)
theorem RpI.un2 {os : List Ob} {tb : ID32 → Bool} {g : Nat} {x : ID32} {s s4 : FS} (h : RpI os tb g x s s4 false) (hx : x ∉ s.sn) (ht : tb x = false) (e : (lkR os x).2.2 = false) : rpF os tb (g + 1) x s false = (⟨s4.sn, s4.ps ++ [x], s4.ws, s4.rs⟩, decide (32 < s4.ps.length + 1)) := by
  obtain ⟨-, rfl⟩ := h.un e
  rw [rp_go, fp_u hx ht e]
  refine Prod.ext rfl ?_
  show (!decide (s.ps.length + 1 ≤ 32)) = decide (32 < s.ps.length + 1)
  by_cases c : s.ps.length + 1 ≤ 32
  · rw [decide_eq_true c, decide_eq_false (by omega)]; rfl
  · rw [decide_eq_false c, decide_eq_true (by omega)]; rfl
theorem RpI.kn2 {os : List Ob} {tb : ID32 → Bool} {g : Nat} {x : ID32} {s s4 : FS} (h : RpI os tb g x s s4 false) (hx : x ∉ s.sn) (ht : tb x = false) (e : (lkR os x).2.2 = true) {w : List Wnt × Bool} (hw : ptF os 3 (-1) (lkR os x).1 s4.ws = w) : rpF os tb (g + 1) x s false = (⟨s4.sn, s4.ps ++ [x], w.1, if w.2 = true then s4.rs ++ [x] else s4.rs⟩, decide (32 < s4.ps.length + 1)) := by
  subst hw
  rw [rp_go, fp_k hx ht e, h.kn e]
  refine Prod.ext rfl ?_
  show (!decide (s4.ps.length + 1 ≤ 32)) = decide (32 < s4.ps.length + 1)
  by_cases c : s4.ps.length + 1 ≤ 32
  · rw [decide_eq_true c, decide_eq_false (by omega)]; rfl
  · rw [decide_eq_false c, decide_eq_true (by omega)]; rfl
def LsI (g : ID32 → FS → FS × Bool) (l : List ID32) (i : Nat) (s1 s4 : FS) (ov4 : Bool) : Prop := lsF g l s1 = if ov4 = true then (s4, false) else lsF g (l.drop i) s4
theorem LsI.start {g : ID32 → FS → FS × Bool} {l : List ID32} {s1 : FS} : LsI g l 0 s1 s1 false := rfl
theorem LsI.next {os : List Ob} {tb : ID32 → Bool} {g : Nat} {l : List ID32} {i : Nat} {s1 s4 : FS} {ov4 : Bool} {r : ID32} (h : LsI (pthF os tb g) l i s1 s4 ov4) (e : l[i]? = some r) : LsI (pthF os tb g) l (i + 1) s1 (rpF os tb g r s4 ov4).1 (rpF os tb g r s4 ov4).2 := by
  unfold LsI at h ⊢
  unfold rpF
  cases ov4 with
  | true => rw [h]; rfl
  | false =>
    rw [h.trans (if_neg (by decide)), ls_drop e]
    generalize pthF os tb g r s4 = p
    obtain ⟨a, b⟩ := p
    cases b <;> rfl
theorem LsI.fin {g : ID32 → FS → FS × Bool} {l : List ID32} {i : Nat} {s1 s4 : FS} {ov4 : Bool} (h : LsI g l i s1 s4 ov4) (e : l.length ≤ i) : lsF g l s1 = (s4, !ov4) := by
  unfold LsI at h
  rw [h]
  cases ov4 with
  | true => rfl
  | false => rw [if_neg (by decide), ls_end e]; rfl
theorem fo85_4 : Fo Tryz.prog 85 4 4 := fun a w => by kernel_rfl
theorem sc4 : Sc Tryz.prog 4 := fun w => ⟨by kernel_rfl, by kernel_rfl⟩
theorem fo85_3 : Fo Tryz.prog 85 3 3 := fun a w => by kernel_rfl
theorem fo85_0 : Fo Tryz.prog 85 0 0 := fun a w => by kernel_rfl
theorem fo85_2 : Fo Tryz.prog 85 2 2 := fun a w => by kernel_rfl
theorem rpath_step {a ta pa wa ra sa : Option Addr} {n c tn tc pn pc wn wc rn rc sk sd g B : Nat} {ov : Bool} {os : List Ob} {tl : List (List UInt8)} {s : FS} {x : ID32} {dp : Int} (hn : n ≤ 1000000) (htn : tn ≤ 1000000) (hs : Shf os) (hT : ∀ y, (lkR os y).2.2 = true → PtD os 3 (-1) (lkR os y).1) (hd0 : 0 ≤ dp) (hdp : dp + (g : Int) = 41) (hH : RfH os s ov B) (hB1 : B ≤ 1000000) (hpn : s.ps.length = pn) (hwn : s.ws.length = wn) (hrn : s.rs.length = rn) (hsk : s.sn.length = sk) (IH : ∀ g' : Nat, g' + 1 = g → ∀ (pa : Option Addr) (pn pc : Nat) (wa : Option Addr) (wn wc : Nat) (ra : Option Addr) (rn rc : Nat) (sa : Option Addr) (sk sd : Nat) (s : FS) (ov : Bool) (x : ID32) (dp : Int) (B : Nat), 0 ≤ dp → dp + (g' : Int) = 41 → RfH os s ov B → B ≤ 1000000 → s.ps.length = pn → s.ws.length = wn → s.rs.length = rn → s.sn.length = sk → Spec Tryz.prog 81 [.agg [.slice pa pn pc, .slice wa wn wc, .slice ra rn rc, .slice sa sk sd, .bool ov].toArray, .slice a n c, .slice ta tn tc, S x.1, .int .i64 dp] [rsl 3 a n c (os.map obR), rsl 1 ta tn tc (tl.map ys), rsl 1 pa pn pc (((s.ps).map (·.1)).map ys), rsl 3 wa wn wc ((s.ws).map wnR), rsl 1 ra rn rc (((s.rs).map (·.1)).map ys), rsl 1 sa sk sd (((s.sn).map (·.1)).map ys)] [] (fun v D' M' => ∃ (pa2 : Option Addr) (pn2 pc2 : Nat) (wa2 : Option Addr) (wn2 wc2 : Nat) (ra2 : Option Addr) (rn2 rc2 : Nat) (sa2 : Option Addr) (sk2 sd2 : Nat), v = .agg [.slice pa2 pn2 pc2, .slice wa2 wn2 wc2, .slice ra2 rn2 rc2, .slice sa2 sk2 sd2, .bool (rpF os (fun y : ID32 => decide (y.1 ∈ tl)) g' x s ov).2].toArray ∧ ((rpF os (fun y : ID32 => decide (y.1 ∈ tl)) g' x s ov).1.ps.length = pn2) ∧ ((rpF os (fun y : ID32 => decide (y.1 ∈ tl)) g' x s ov).1.ws.length = wn2) ∧ ((rpF os (fun y : ID32 => decide (y.1 ∈ tl)) g' x s ov).1.rs.length = rn2) ∧ ((rpF os (fun y : ID32 => decide (y.1 ∈ tl)) g' x s ov).1.sn.length = sk2) ∧ D' = [rsl 1 pa2 pn2 pc2 ((((rpF os (fun y : ID32 => decide (y.1 ∈ tl)) g' x s ov).1.ps).map (·.1)).map ys), rsl 3 wa2 wn2 wc2 (((rpF os (fun y : ID32 => decide (y.1 ∈ tl)) g' x s ov).1.ws).map wnR), rsl 1 ra2 rn2 rc2 ((((rpF os (fun y : ID32 => decide (y.1 ∈ tl)) g' x s ov).1.rs).map (·.1)).map ys), rsl 1 sa2 sk2 sd2 ((((rpF os (fun y : ID32 => decide (y.1 ∈ tl)) g' x s ov).1.sn).map (·.1)).map ys)] ∧ M' = [])) : Spec Tryz.prog 81 [.agg [.slice pa pn pc, .slice wa wn wc, .slice ra rn rc, .slice sa sk sd, .bool ov].toArray, .slice a n c, .slice ta tn tc, S x.1, .int .i64 dp] [rsl 3 a n c (os.map obR), rsl 1 ta tn tc (tl.map ys), rsl 1 pa pn pc (((s.ps).map (·.1)).map ys), rsl 3 wa wn wc ((s.ws).map wnR), rsl 1 ra rn rc (((s.rs).map (·.1)).map ys), rsl 1 sa sk sd (((s.sn).map (·.1)).map ys)] [] (fun v D' M' => ∃ (pa2 : Option Addr) (pn2 pc2 : Nat) (wa2 : Option Addr) (wn2 wc2 : Nat) (ra2 : Option Addr) (rn2 rc2 : Nat) (sa2 : Option Addr) (sk2 sd2 : Nat), v = .agg [.slice pa2 pn2 pc2, .slice wa2 wn2 wc2, .slice ra2 rn2 rc2, .slice sa2 sk2 sd2, .bool (rpF os (fun y : ID32 => decide (y.1 ∈ tl)) g x s ov).2].toArray ∧ ((rpF os (fun y : ID32 => decide (y.1 ∈ tl)) g x s ov).1.ps.length = pn2) ∧ ((rpF os (fun y : ID32 => decide (y.1 ∈ tl)) g x s ov).1.ws.length = wn2) ∧ ((rpF os (fun y : ID32 => decide (y.1 ∈ tl)) g x s ov).1.rs.length = rn2) ∧ ((rpF os (fun y : ID32 => decide (y.1 ∈ tl)) g x s ov).1.sn.length = sk2) ∧ D' = [rsl 1 pa2 pn2 pc2 ((((rpF os (fun y : ID32 => decide (y.1 ∈ tl)) g x s ov).1.ps).map (·.1)).map ys), rsl 3 wa2 wn2 wc2 (((rpF os (fun y : ID32 => decide (y.1 ∈ tl)) g x s ov).1.ws).map wnR), rsl 1 ra2 rn2 rc2 ((((rpF os (fun y : ID32 => decide (y.1 ∈ tl)) g x s ov).1.rs).map (·.1)).map ys), rsl 1 sa2 sk2 sd2 ((((rpF os (fun y : ID32 => decide (y.1 ∈ tl)) g x s ov).1.sn).map (·.1)).map ys)] ∧ M' = []) := by
 refine zI (n := 121) Tryz.func81 ?_
 intro σ D M
 refine yC (a := a) (len := n) (cap := c) (rows := os.map obR) qM (fun hol hoc => ?_)
 rw [List.length_map] at hol
 have hx32 := x.2
 have hln := hH.lens
 have hle := hH.le
 obtain ⟨W, hW⟩ : ∃ z, z = lkR os x := ⟨_, rfl⟩
 have hW8 := lkR_len os x
 rw [← hW] at hW8
 refine z6 (z8 (yt rfl rfl rfl (fun b5 => ?_)))
 refine zL rfl ze85 (fun b10 => ?_)
 refine z7 (z4 (z6 (z6 (yj (fun K' D' M' => ∃ (w : Bool), (w = true ↔ (ov = true ∨ x ∈ s.sn ∨ 40 < dp)) ∧ K' = [(31, .bool w)] ∧ D' = [] ∧ M' = [cl b5 85 [.slice pa pn pc, .slice wa wn wc, .slice ra rn rc, .slice sa sk sd, .bool ov]]) (M0 := [cl b5 85 [.slice pa pn pc, .slice wa wn wc, .slice ra rn rc, .slice sa sk sd, .bool ov]]) (.cons (t := 1) rfl <| .cons (t := 2) rfl <| .cons (t := 3) rfl <| .cons (t := 4) rfl <| .cons (t := 5) rfl <| .cons (t := 10) rfl <| za _) qS ?_ ?_))))
 ·skip
  refine z8 (zg rfl fo85_4 rfl ?_)
  refine zi rfl sc4 rfl qC ?_
  refine z5 rfl rfl (yK (t := 22) rfl (fun h1 => ?_) (fun h1 => ?_))
  ·try simp only [dq] at h1
   exact zh (dj := 22) (c := true) rfl rfl rfl rfl rfl jD (zh (dj := 22) (c := true) rfl rfl rfl rfl rfl jD (zh (dj := 22) (c := true) rfl rfl rfl rfl rfl jD (zh (dj := 22) (c := true) rfl rfl rfl rfl rfl jD (y6 rfl rfl rfl (z5 rfl rfl (zh (dj := 28) (c := true) rfl rfl rfl rfl rfl jD (zh (dj := 28) (c := true) rfl rfl rfl rfl rfl jD (y6 rfl rfl rfl (z7 (z4 (zF ⟨_, (by simp_all), rfl, rfl, rfl⟩ (.cons (t := 31) rfl <| za _) (.cons (t := 1) rfl <| .cons (t := 2) rfl <| .cons (t := 3) rfl <| .cons (t := 4) rfl <| .cons (t := 5) rfl <| .cons (t := 10) rfl <| za _) qD qD qF)))))))))))
  ·try simp only [dq] at h1
   refine zf (dj := 22) rfl rfl rfl (zg rfl fo85_3 rfl ?_)
   refine zf (dj := 22) rfl rfl rfl (zi rfl sc31 rfl qC ?_)
   refine zf (dj := 22) rfl rfl rfl (z5 rfl rfl (zf (dj := 22) rfl rfl rfl (zW rfl (ev2 rfl rfl) qD qS (in14_spec (l := s.sn.map (·.1)) (s := x.1) jO) jF ?_)))
   refine zv (t := 26) (u := .bool (decide (x ∈ s.sn))) rfl (congrArg Value.bool (by simp only [mem_val])) ?_
   refine y9 rfl rfl rfl (z5 rfl rfl (yK (t := 28) rfl (fun h2 => ?_) (fun h2 => ?_)))
   ·try simp only [dq] at h2
    exact zh (dj := 28) (c := true) rfl rfl rfl rfl rfl jD (zh (dj := 28) (c := true) rfl rfl rfl rfl rfl jD (y6 rfl rfl rfl (z7 (z4 (zF ⟨_, (by simp_all), rfl, rfl, rfl⟩ (.cons (t := 31) rfl <| za _) (.cons (t := 1) rfl <| .cons (t := 2) rfl <| .cons (t := 3) rfl <| .cons (t := 4) rfl <| .cons (t := 5) rfl <| .cons (t := 10) rfl <| za _) qD qD qF)))))
   ·try simp only [dq] at h2
    exact zf (dj := 28) rfl rfl rfl (z5 rfl rfl (zf (dj := 28) rfl rfl rfl (yq rfl rfl rfl (y9 rfl rfl rfl (z7 (z4 (zF ⟨_, (by simp_all), rfl, rfl, rfl⟩ (.cons (t := 31) rfl <| za _) (.cons (t := 1) rfl <| .cons (t := 2) rfl <| .cons (t := 3) rfl <| .cons (t := 4) rfl <| .cons (t := 5) rfl <| .cons (t := 10) rfl <| za _) qD qD qF)))))))
 rintro _ _ _ ⟨w, hw, rfl, rfl, rfl⟩
 refine zE qA qA qA ?_
 refine z4 (zo rfl (fun h31 => ?_) (fun h31 => ?_))
 ·try simp only [dq] at h31
  have hst := rp_stop (os := os) (tb := (fun y : ID32 => decide (y.1 ∈ tl))) (g := g) (hw.1 h31) hdp
  refine z6 (z8 (zp rfl ag85 rfl qN ?_))
  refine zz ag85 rfl rfl qL qO qU qW ?_
  refine z7 (z4 (zj (zx ?_)))
  rw [hst]
  exact xd rfl ag85 rfl qN ⟨pa, pn, pc, wa, wn, wc, ra, rn, rc, sa, sk, sd, rfl, hpn, hwn, hrn, hsk, rfl, rfl⟩ qD qF
 ·try simp only [dq] at h31
  have hw3 : ¬ (ov = true ∨ x ∈ s.sn ∨ 40 < dp) := fun e => by have := hw.2 e; rw [h31] at this; cases this
  obtain rfl : ov = false := by cases ov with
   | true => exact absurd (.inl rfl) hw3
   | false => rfl
  have hx : x ∉ s.sn := fun e => hw3 (.inr (.inl e))
  obtain ⟨g', rfl⟩ : ∃ g', g = g' + 1 := ⟨g - 1, by omega⟩
  refine zm (z4 (z6 (z8 (zZ rfl bs31 jD (zB (out := []) rfl) (fun b33 => ?_)))))
  refine yI (len := 0) qP (rows := (([] : List ID32).map (·.1)).map ys) (sz := 1) (by rfl) rfl (by simp) ?_
  refine zg rfl fo85_3 rfl ?_
  refine zi rfl sc31 rfl qC ?_
  refine xc rfl yG yG el9 rfl rfl qP (rd_D qM) one_yss qI qI (fun a36 c36 => ?_)
  refine z5 rfl rfl (zZ rfl bs31 jD (zw rfl rfl rfl <| zB (out := []) rfl) (fun b38 => ?_))
  refine yz rfl yG el9 rfl rfl qP qM rfl qO1 qI qI (fun a39 c39 => ?_)
  refine zg rfl fo85_3 rfl ?_
  refine y8 sc31 rfl rfl rfl qU qE ?_
  refine z7 (yg _ (((s.sn ++ [x]).map (·.1)).map ys) qP (by rw [List.map_append, List.map_append]; rfl) ?_)
  refine yA (rows := ((s.sn ++ [x]).map (·.1)).map ys) qP ?_
  refine z4 (z6 (z6 (z8 (z5 rfl rfl (z5 rfl rfl (zW rfl (ev2 rfl rfl) qD qS (in14_spec (l := tl) (s := x.1) htn) jF ?_))))))
  refine z7 (z4 (zo rfl (fun h43 => ?_) (fun h43 => ?_)))
  ·try simp only [dq] at h43
   have htb : (fun y : ID32 => decide (y.1 ∈ tl)) x = true := decide_eq_true h43
   refine z6 (z8 (zp rfl ag85 rfl qN ?_))
   refine zz ag85 rfl rfl qL qO qU qW ?_
   refine z7 (z4 (zj (zx ?_)))
   rw [rp_th hx htb]
   exact xd rfl ag85 rfl qN ⟨pa, pn, pc, wa, wn, wc, ra, rn, rc, a39, 0 + sk + 1, c39, rfl, hpn, hwn, hrn, (by rw [List.length_append, hsk, List.length_singleton]; omega), rfl, rfl⟩ qD qF
  ·try simp only [dq] at h43
   have htb : (fun y : ID32 => decide (y.1 ∈ tl)) x = false := decide_eq_false h43
   refine zm (z4 (z6 (z8 (z5 rfl rfl (z5 rfl rfl (zC rfl (ev3 rfl rfl rfl) qD qS (rhas_spec (os := os) (x := x) (kd := 3) jO) ?_))))))
   rintro _ _ _ ⟨k, rfl, hh, rfl, rfl⟩
   refine zy qA qA ?_
   refine z9 rfl rfl (z7 (z4 (z6 (z6 (z8 (z5 rfl rfl (zQ rfl rfl rfl (z7 (z4 (yj (fun K' D' M' => ∃ (wl : List Wnt) (wa5 : Option Addr) (wn5 wc5 : Nat), (wl = ndW os s.ws (3, x, 294) ∧ wl.length = wn5) ∧ K' = [] ∧ D' = [rsl 3 wa5 wn5 wc5 ((wl).map wnR)] ∧ M' = [cl b5 85 [.slice pa pn pc, .slice wa5 wn5 wc5, .slice ra rn rc, .slice a39 (0 + sk + 1) c39, .bool false]]) (M0 := [cl b5 85 [.slice pa pn pc, .slice wa wn wc, .slice ra rn rc, .slice a39 (0 + sk + 1) c39, .bool false]]) (.cons (t := 1) rfl <| .cons (t := 2) rfl <| .cons (t := 3) rfl <| .cons (t := 4) rfl <| .cons (t := 5) rfl <| .cons (t := 10) rfl <| .cons (t := 11) rfl <| za _) qS ?_ ?_))))))))))
   ·skip
    refine zo rfl (fun h49 => ?_) (fun h49 => ?_)
    ·try simp only [dq] at h49
     have hB := hh.no h49 294
     refine z8 (zp rfl ag85 rfl qN ?_)
     refine z5 rfl rfl (ye rfl bu153 (zw rfl rfl rfl <| zw rfl rfl rfl <| zw rfl rfl rfl <| zB (out := []) rfl) ?_)
     refine zC rfl (ev2 rfl rfl) qD qS (rneed_spec (ws := s.ws) (x := (3, x, 294)) jO) ?_
     rintro _ _ _ ⟨wa6, wn6, wc6, rfl, hw6, rfl, rfl⟩
     refine zy qA qA ?_
     refine zz ag85 rfl rfl qL qO qU qW ?_
     exact z7 (z4 (zF ⟨nwR s.ws (3, x, 294), wa6, wn6, wc6, ⟨(ndW_no hB).symm, hw6⟩, rfl, rfl, rfl⟩ (za _) (.cons (t := 1) rfl <| .cons (t := 2) rfl <| .cons (t := 3) rfl <| .cons (t := 4) rfl <| .cons (t := 5) rfl <| .cons (t := 10) rfl <| .cons (t := 11) rfl <| za _) qD qD qF))
    ·try simp only [dq] at h49
     exact zm (z4 (zF ⟨s.ws, wa, wn, wc, ⟨(ndW_t ((hh.yes h49).2 294)).symm, hwn⟩, rfl, rfl, rfl⟩ (za _) (.cons (t := 1) rfl <| .cons (t := 2) rfl <| .cons (t := 3) rfl <| .cons (t := 4) rfl <| .cons (t := 5) rfl <| .cons (t := 10) rfl <| .cons (t := 11) rfl <| za _) qD qD qF))
   rintro _ _ _ ⟨wl, wa5, wn5, wc5, ⟨hwl, hw5⟩, rfl, rfl, rfl⟩
   refine zE qA qA qA ?_
   subst hwl
   have hnl := ndW_len os s.ws (3, x, 294)
   refine z4 (z6 (z8 (ye rfl bu107 (zB (out := [S [], Value.int .i64 0, Value.slice none 0 0]) rfl) ?_)))
   refine zL rfl ze107 (fun b12 => ?_)
   refine zz ag107 rfl rfl qL qO qU qW ?_
   refine z7 (z4 (z6 (z8 (z9 rfl rfl (z7 (z4 (z6 (z6 (z8 (z5 rfl rfl (yS rfl rfl rfl (z7 (z4 (yj (fun K' D' M' => ∃ (qa : Option Addr) (qn qc : Nat) (cs : List Value), ((W.2.2 = true → cs = inR W.1 qa qn qc) ∧ cs.length = 3 ∧ (∀ q ∈ cs, q.oneCell' = true) ∧ W.2.1.length = qn) ∧ K' = [(13, .bool W.2.2)] ∧ D' = [rsl 1 qa qn qc (((W.2.1).map (·.1)).map ys)] ∧ M' = [cl b12 107 cs]) (M0 := [cl b12 107 [S [], .int .i64 0, .slice none 0 0]]) (.cons (t := 1) rfl <| .cons (t := 2) rfl <| .cons (t := 3) rfl <| .cons (t := 4) rfl <| .cons (t := 5) rfl <| .cons (t := 10) rfl <| .cons (t := 12) rfl <| za _) qS ?_ ?_))))))))))))))
   ·skip
    refine zo rfl (fun h56 => ?_) (fun h56 => ?_)
    ·try simp only [dq] at h56
     obtain ⟨⟨ix, o, rfl, hgx, ho⟩, hB2⟩ := hh.yes jO
     have hB := hB2 294
     have hgr : (os.map obR)[ix]? = some (obR o) := zS hgx
     have hix : ix < n := by rw [← hol]; exact (List.getElem?_eq_some_iff.1 hgx).1
     have hos := hs o (List.mem_of_getElem? hgx)
     have ho32 := o.2.1.2
     have hlk := ndB_lk hB
     rw [← ho] at hlk
     refine z6 (z8 (z5 rfl rfl (z5 rfl rfl (yH (i := ix) rfl xq sz118 rfl rfl qM jR qG (fun b60 o60 => ?_)))))
     refine zg rfl fo118_2 rfl ?_
     refine zi rfl sc9 rfl qC ?_
     refine zC rfl (ev1 rfl) qD qS (rparse11_spec (s := o.2.2) jO) ?_
     rintro _ _ _ ⟨ra6, rn6, rc6, cs6, rfl, hcs6, hco6, hrn6, hce6, rfl, rfl⟩
     refine zy qA qA ?_
     refine yY (rows := (((parI o.2.2).2.1.map (·.1)).map ys)) qP ?_
     obtain ⟨Z, hZ⟩ : ∃ z, z = parI o.2.2 := ⟨_, rfl⟩
     rw [← hZ] at hrn6 hce6 hlk ⊢
     obtain rfl : W = (Z.1, Z.2.1, decide (Z.2.2 = 0)) := hW.trans hlk
     refine z5 rfl rfl (zV rfl rfl rfl (zV rfl rfl rfl (zL rfl ze107 (fun b14 => ?_))))
     refine zz ag107 rfl rfl qL qO qU qW ?_
     refine z9 rfl rfl (z7 (z4 (z6 (z8 (zp rfl ag107 rfl qN ?_)))))
     refine zz ag107 rfl rfl qL qO qU qW ?_
     exact z7 (z4 (z8 (z5 rfl rfl (yn rfl rfl rfl (z9 rfl rfl (z7 (z4 (zF ⟨ra6, rn6, rc6, cs6, ⟨fun q => hce6 (of_decide_eq_true q), hcs6, hco6, hrn6⟩, rfl, rfl, rfl⟩ (.cons (t := 13) rfl <| za _) (.cons (t := 1) rfl <| .cons (t := 2) rfl <| .cons (t := 3) rfl <| .cons (t := 4) rfl <| .cons (t := 5) rfl <| .cons (t := 10) rfl <| .cons (t := 12) rfl <| za _) qD qD qF))))))))
    ·try simp only [dq] at h56
     have hB := hh.no jO 294
     obtain rfl : W = (zP, [], false) := hW.trans (ndB_no hB)
     refine yw (sz := 1) (e := 9) ?_
     refine zU qP (show own 1 9 none 0 0 [] = own 1 9 none 0 0 ((([] : List ID32).map (·.1)).map ys) from rfl) ?_
     refine yA (rows := (([] : List ID32).map (·.1)).map ys) qP ?_
     exact zm (z4 (zF ⟨none, 0, 0, [S [], .int .i64 0, .slice none 0 0], ⟨fun q => Bool.noConfusion q, rfl, (by intro q hq; simp only [List.mem_cons, List.not_mem_nil, or_false] at hq; rcases hq with rfl | rfl | rfl <;> rfl), rfl⟩, rfl, rfl, rfl⟩ (.cons (t := 13) rfl <| za _) (.cons (t := 1) rfl <| .cons (t := 2) rfl <| .cons (t := 3) rfl <| .cons (t := 4) rfl <| .cons (t := 5) rfl <| .cons (t := 10) rfl <| .cons (t := 12) rfl <| za _) qD qD qF))
   rintro _ _ _ ⟨qa, qn, qc, cs, ⟨hce, hcs, hco, hqn⟩, rfl, rfl, rfl⟩
   refine zE qA qA qA ?_
   refine z4 (z6 (z6 (z8 (z5 rfl rfl (z7 (z4 (yj (fun K' D' M' => ∃ (s4 : FS) (ov4 : Bool) (pa4 : Option Addr) (pn4 pc4 : Nat) (wa4 : Option Addr) (wn4 wc4 : Nat) (ra4 : Option Addr) (rn4 rc4 : Nat) (sa4 : Option Addr) (sk4 sd4 : Nat), (RpI os (fun y : ID32 => decide (y.1 ∈ tl)) g' x s s4 ov4 ∧ (s4.ps.length ≤ 33 ∧ s4.rs.length ≤ 33 ∧ s4.ws.length ≤ 30000) ∧ s4.ps.length = pn4 ∧ s4.ws.length = wn4 ∧ s4.rs.length = rn4 ∧ s4.sn.length = sk4) ∧ K' = [] ∧ D' = [rsl 1 pa4 pn4 pc4 (((s4.ps).map (·.1)).map ys), rsl 3 wa4 wn4 wc4 ((s4.ws).map wnR), rsl 1 ra4 rn4 rc4 (((s4.rs).map (·.1)).map ys), rsl 1 sa4 sk4 sd4 (((s4.sn).map (·.1)).map ys)] ∧ M' = [cl b5 85 [.slice pa4 pn4 pc4, .slice wa4 wn4 wc4, .slice ra4 rn4 rc4, .slice sa4 sk4 sd4, .bool ov4]]) (M0 := [cl b5 85 [.slice pa pn pc, .slice wa5 wn5 wc5, .slice ra rn rc, .slice a39 (0 + sk + 1) c39, .bool false]]) (.cons (t := 1) rfl <| .cons (t := 3) rfl <| .cons (t := 5) rfl <| .cons (t := 10) rfl <| .cons (t := 12) rfl <| .cons (t := 13) rfl <| za _) qS ?_ ?_)))))))
   ·skip
    refine zo rfl (fun h69 => ?_) (fun h69 => ?_)
    ·try simp only [dq] at h69
     obtain rfl := hce h69
     refine z6 (z8 (zg rfl fo107_1 rfl ?_))
     refine zi rfl sc31 rfl qC ?_
     refine y1 rfl yG rfl (z5 rfl rfl (z7 (z4 (zu ?_))))
     have hndw : ndW os s.ws (3, x, 294) = s.ws := ndW_t (lk_ndB (hW ▸ h69))
     refine T.derive (φ := rsl 3 wa5 wn5 wc5 ((ndW os s.ws (3, x, 294)).map wnR)) (ψ := rsl 3 wa5 wn5 wc5 ((s.ws).map wnR)) qM (fun z H => by rw [hndw] at H; exact H) ?_
     refine zY (fun K' D' M' μ => ∃ (i : Nat) (s4 : FS) (ov4 : Bool) (pa4 : Option Addr) (pn4 pc4 : Nat) (wa4 : Option Addr) (wn4 wc4 : Nat) (ra4 : Option Addr) (rn4 rc4 : Nat) (sa4 : Option Addr) (sk4 sd4 : Nat), (i ≤ qn ∧ LsI (pthF os (fun y : ID32 => decide (y.1 ∈ tl)) g') W.2.1 i ⟨s.sn ++ [x], s.ps, s.ws, s.rs⟩ s4 ov4 ∧ RfH os s4 ov4 (B - 8 + i) ∧ s4.ps.length = pn4 ∧ s4.ws.length = wn4 ∧ s4.rs.length = rn4 ∧ s4.sn.length = sk4) ∧ K' = [(73, .int .i64 (i : Int))] ∧ D' = [rsl 1 pa4 pn4 pc4 (((s4.ps).map (·.1)).map ys), rsl 3 wa4 wn4 wc4 ((s4.ws).map wnR), rsl 1 ra4 rn4 rc4 (((s4.rs).map (·.1)).map ys), rsl 1 sa4 sk4 sd4 (((s4.sn).map (·.1)).map ys)] ∧ M' = [cl b5 85 [.slice pa4 pn4 pc4, .slice wa4 wn4 wc4, .slice ra4 rn4 rc4, .slice sa4 sk4 sd4, .bool ov4]] ∧ μ = qn - i) (.cons (t := 1) rfl <| .cons (t := 2) rfl <| .cons (t := 3) rfl <| .cons (t := 4) rfl <| .cons (t := 5) rfl <| .cons (t := 10) rfl <| .cons (t := 12) rfl <| .cons (t := 13) rfl <| .cons (t := 71) rfl <| .cons (t := 72) rfl <| za _) (⟨0, ⟨s.sn ++ [x], s.ps, s.ws, s.rs⟩, false, pa, pn, pc, wa5, wn5, wc5, ra, rn, rc, a39, 0 + sk + 1, c39, ⟨Nat.zero_le _, .start, ⟨⟨hH.ok.rs, hH.ok.ws⟩, hH.le, fun _ => hH.go rfl, by have h1 := pot_kn (ps := s.ps) (rs := s.rs) (ws := s.ws) hx (hW ▸ h69); have h2 := hH.po; omega⟩, hpn, (by rw [← hw5, ndW_t (lk_ndB (hW ▸ h69))]), hrn, (by rw [List.length_append, hsk, List.length_singleton]; omega)⟩, rfl, rfl, rfl, rfl⟩) (.cons (t := 73) rfl <| za _) qD qS ?_
     rintro K1 D1 M1 m1 ⟨i, s4, ov4, pa4, pn4, pc4, wa4, wn4, wc4, ra4, rn4, rc4, sa4, sk4, sd4, ⟨hi, hI, hRf4, hp4, hw4, hr4, hs4⟩, rfl, rfl, rfl, rfl⟩
     refine zE qA qA qA ?_
     refine z6 (z8 (zQ rfl rfl rfl (z7 (z4 (z6 (zo rfl (fun h74 => ?_) (fun h74 => ?_)))))))
     ·try simp only [dq] at h74
      refine zm (z4 (z6 (zu (z6 ?_))))
      have hgi : W.2.1[i]? = some (gd W.2.1 i) := zJ jO
      obtain ⟨r, hr_⟩ : ∃ y, y = gd W.2.1 i := ⟨_, rfl⟩
      rw [← hr_] at hgi
      clear hr_
      have hmi : (W.2.1.map (·.1))[i]? = some r.1 := zS hgi
      have hgr2 : ((W.2.1.map (·.1)).map ys)[i]? = some (ys r.1) := zS hmi
      refine z8 (yH (i := i) rfl yG sz9 rfl rfl qM jR qG (fun b75 o75 => ?_))
      refine zi rfl sc9 rfl qC ?_
      refine z9 rfl rfl (z7 (z4 ?_))
      have hIH := IH g' rfl pa4 pn4 pc4 wa4 wn4 wc4 ra4 rn4 rc4 sa4 sk4 sd4 s4 ov4 r (dp + 1) (B - 8 + i) jO jO hRf4 jO hp4 hw4 hr4 hs4
      refine z8 (zp rfl ag85 rfl qN ?_)
      refine z5 rfl rfl (z5 rfl rfl (z5 rfl rfl (z5 rfl rfl (zH rfl rfl rfl jO ?_))))
      refine zC rfl (ev5 rfl rfl rfl rfl rfl) qD qS (hIH) ?_
      rintro _ _ _ ⟨pa5, pn5, pc5, wa7, wn7, wc7, ra5, rn5, rc5, sa5, sk5, sd5, rfl, hp5, hw7, hr5, hs5, rfl, rfl⟩
      refine zy qA qA ?_
      refine zz ag85 rfl rfl qL qO qU qW ?_
      refine z7 (zK (z4 (z8 (zH rfl rfl rfl jO ?_))))
      exact z5 rfl rfl (z7 (z4 (zR ⟨i + 1, (rpF os (fun y : ID32 => decide (y.1 ∈ tl)) g' r s4 ov4).1, (rpF os (fun y : ID32 => decide (y.1 ∈ tl)) g' r s4 ov4).2, pa5, pn5, pc5, wa7, wn7, wc7, ra5, rn5, rc5, sa5, sk5, sd5, ⟨by omega, hI.next hgi, hRf4.next, hp5, hw7, hr5, hs5⟩, rfl, rfl, rfl, rfl⟩ qI (.cons (t := 73) rfl <| za _) (.cons (t := 1) rfl <| .cons (t := 2) rfl <| .cons (t := 3) rfl <| .cons (t := 4) rfl <| .cons (t := 5) rfl <| .cons (t := 10) rfl <| .cons (t := 12) rfl <| .cons (t := 13) rfl <| .cons (t := 71) rfl <| .cons (t := 72) rfl <| za _) qD qD qF)))
     ·try simp only [dq] at h74
      obtain rfl : qn = i := by omega
      exact zN (zr (zr (zO (z4 (zF ⟨s4, ov4, pa4, pn4, pc4, wa4, wn4, wc4, ra4, rn4, rc4, sa4, sk4, sd4, ⟨.ofK (hW ▸ h69) (by rw [← hW]; exact hI.fin jO), (by have h1 := hRf4.lens; have h2 := hRf4.le; omega), hp4, hw4, hr4, hs4⟩, rfl, rfl, rfl⟩ (za _) (.cons (t := 1) rfl <| .cons (t := 3) rfl <| .cons (t := 5) rfl <| .cons (t := 10) rfl <| .cons (t := 12) rfl <| .cons (t := 13) rfl <| za _) qD qD qF)))))
    ·try simp only [dq] at h69
     exact zm (z4 (zF ⟨⟨s.sn ++ [x], s.ps, ndW os s.ws (3, x, 294), s.rs⟩, false, pa, pn, pc, wa5, wn5, wc5, ra, rn, rc, a39, 0 + sk + 1, c39, ⟨.ofU (hW ▸ h69) rfl, ⟨hle, hln.1, Nat.le_trans hnl jO⟩, hpn, hw5, hrn, (by rw [List.length_append, hsk, List.length_singleton]; omega)⟩, rfl, rfl, rfl⟩ (za _) (.cons (t := 1) rfl <| .cons (t := 3) rfl <| .cons (t := 5) rfl <| .cons (t := 10) rfl <| .cons (t := 12) rfl <| .cons (t := 13) rfl <| za _) qD qD qF))
   rintro _ _ _ ⟨s4, ov4, pa4, pn4, pc4, wa4, wn4, wc4, ra4, rn4, rc4, sa4, sk4, sd4, ⟨hRp, hRf, hp4, hw4, hr4, hs4⟩, rfl, rfl, rfl⟩
   refine zE qA qA qA ?_
   obtain ⟨hle4, hlr4, hlw4⟩ := hRf
   refine z4 (z6 (z6 (z8 (zg rfl fo85_4 rfl ?_))))
   refine zi rfl sc4 rfl qC ?_
   refine z7 (z4 (zo rfl (fun h86 => ?_) (fun h86 => ?_)))
   ·try simp only [dq] at h86
    obtain rfl : ov4 = true := h86
    have hR := hRp.over hx htb
    refine z6 (z8 (zp rfl ag85 rfl qN ?_))
    refine zz ag85 rfl rfl qL qO qU qW ?_
    refine z7 (z4 (zj (zx ?_)))
    rw [hR]
    exact xd rfl ag85 rfl qN ⟨pa4, pn4, pc4, wa4, wn4, wc4, ra4, rn4, rc4, sa4, sk4, sd4, rfl, hp4, hw4, hr4, hs4, rfl, rfl⟩ qD qF
   ·try simp only [dq] at h86
    obtain rfl : ov4 = false := h86
    refine zm (z4 (z6 (z8 (zZ rfl bs31 jD (zB (out := []) rfl) (fun b88 => ?_)))))
    refine yI (len := 0) qP (rows := (([] : List ID32).map (·.1)).map ys) (sz := 1) (by rfl) rfl (by simp) ?_
    refine zg rfl fo85_0 rfl ?_
    refine zi rfl sc31 rfl qC ?_
    refine xc rfl yG yG el9 rfl rfl qP (rd_D qM) one_yss qI qI (fun a91 c91 => ?_)
    refine z5 rfl rfl (zZ rfl bs31 jD (zw rfl rfl rfl <| zB (out := []) rfl) (fun b93 => ?_))
    refine yz rfl yG el9 rfl rfl qP qM rfl qO1 qI qI (fun a94 c94 => ?_)
    refine zg rfl fo85_0 rfl ?_
    refine y8 sc31 rfl rfl rfl qU qE ?_
    refine z7 (yg _ (((s4.ps ++ [x]).map (·.1)).map ys) qP (by rw [List.map_append, List.map_append]; rfl) ?_)
    refine yA (rows := ((s4.ps ++ [x]).map (·.1)).map ys) qP ?_
    refine z4 (z6 (z6 (z8 (z5 rfl rfl (z7 (z4 (zo rfl (fun h96 => ?_) (fun h96 => ?_))))))))
    ·try simp only [dq] at h96
     have hlk2 : (lkR os x).2.2 = true := hW ▸ h96
     have hPT : PtD os 3 (-1) W.1 := by rw [hW]; exact hT x hlk2
     obtain rfl := hce h96
     refine z6 (z8 (zp rfl ag85 rfl qN ?_))
     refine z5 rfl rfl (zg rfl fo107_0 rfl ?_)
     refine zp rfl ag105 rfl (CellsN.ofM qM (at_pR _ _ _ _)) ?_
     refine zC rfl (ev3 rfl rfl rfl) qD qS (rftree_spec (os := os) (ws := s4.ws) (r := W.1) jO hs hPT hw4 jO) ?_
     rintro _ _ _ ⟨wa7, wn7, wc7, rfl, hw7, rfl, rfl⟩
     refine zy qA qA ?_
     refine z5 rfl rfl (zV rfl rfl rfl (zV rfl rfl rfl (zL rfl ze85 (fun b18 => ?_))))
     refine zz ag85 rfl rfl qL qO qU qW ?_
     refine z9 rfl rfl (z7 (z4 (z6 (z8 (zp rfl ag85 rfl qN ?_)))))
     refine zz ag85 rfl rfl qL qO qU qW ?_
     refine z7 (z4 (z6 (z8 (z5 rfl rfl (z7 (z4 (zo rfl (fun h106 => ?_) (fun h106 => ?_))))))))
     ·try simp only [dq] at h106
      have hR := hRp.kn2 hx htb hlk2 rfl
      rw [← hW, if_pos h106] at hR
      refine z8 (zZ rfl bs31 jD (zB (out := []) rfl) (fun b107 => ?_))
      refine yI (len := 0) qP (rows := (([] : List ID32).map (·.1)).map ys) (sz := 1) (by rfl) rfl (by simp) ?_
      refine zg rfl fo85_2 rfl ?_
      refine zi rfl sc31 rfl qC ?_
      refine xc rfl yG yG el9 rfl rfl qP (rd_D qM) one_yss qI qI (fun a110 c110 => ?_)
      refine z5 rfl rfl (zZ rfl bs31 jD (zw rfl rfl rfl <| zB (out := []) rfl) (fun b112 => ?_))
      refine yz rfl yG el9 rfl rfl qP qM rfl qO1 qI qI (fun a113 c113 => ?_)
      refine zg rfl fo85_2 rfl ?_
      refine y8 sc31 rfl rfl rfl qU qE ?_
      refine z7 (yg _ (((s4.rs ++ [x]).map (·.1)).map ys) qP (by rw [List.map_append, List.map_append]; rfl) ?_)
      refine yA (rows := ((s4.rs ++ [x]).map (·.1)).map ys) qP ?_
      refine z4 (z6 (z8 (zg rfl fo85_0 rfl ?_)))
      refine zi rfl sc31 rfl qC ?_
      refine y1 rfl yG rfl (yq rfl rfl rfl (zv (t := 118) (u := .bool (decide (32 < s4.ps.length + 1))) rfl (congrArg Value.bool (decide_eq_decide.2 jO)) ?_))
      refine zg rfl fo85_4 rfl ?_
      refine y8 sc4 rfl rfl rfl qU qE ?_
      refine z7 (z4 (z6 (z8 (zp rfl ag85 rfl qN ?_))))
      refine zz ag85 rfl rfl qL qO qU qW ?_
      refine z7 (z4 (zj ?_))
      rw [hR]
      exact xd rfl ag85 rfl qN ⟨a94, 0 + pn4 + 1, c94, wa7, wn7, wc7, a113, 0 + rn4 + 1, c113, sa4, sk4, sd4, rfl, (by rw [List.length_append, hp4, List.length_singleton]; omega), hw7, (by rw [List.length_append, hr4, List.length_singleton]; omega), hs4, rfl, rfl⟩ qD qF
     ·try simp only [dq] at h106
      have hR := hRp.kn2 hx htb hlk2 rfl
      rw [← hW, if_neg (by rw [h106]; decide)] at hR
      refine zm (z4 (z6 (z8 (zg rfl fo85_0 rfl ?_))))
      refine zi rfl sc31 rfl qC ?_
      refine y1 rfl yG rfl (yq rfl rfl rfl (zv (t := 118) (u := .bool (decide (32 < s4.ps.length + 1))) rfl (congrArg Value.bool (decide_eq_decide.2 jO)) ?_))
      refine zg rfl fo85_4 rfl ?_
      refine y8 sc4 rfl rfl rfl qU qE ?_
      refine z7 (z4 (z6 (z8 (zp rfl ag85 rfl qN ?_))))
      refine zz ag85 rfl rfl qL qO qU qW ?_
      refine z7 (z4 (zj ?_))
      rw [hR]
      exact xd rfl ag85 rfl qN ⟨a94, 0 + pn4 + 1, c94, wa7, wn7, wc7, ra4, rn4, rc4, sa4, sk4, sd4, rfl, (by rw [List.length_append, hp4, List.length_singleton]; omega), hw7, hr4, hs4, rfl, rfl⟩ qD qF
    ·try simp only [dq] at h96
     have hR := hRp.un2 hx htb (hW ▸ h96)
     refine zm (z4 (z6 (z8 (zg rfl fo85_0 rfl ?_))))
     refine zi rfl sc31 rfl qC ?_
     refine y1 rfl yG rfl (yq rfl rfl rfl (zv (t := 118) (u := .bool (decide (32 < s4.ps.length + 1))) rfl (congrArg Value.bool (decide_eq_decide.2 jO)) ?_))
     refine zg rfl fo85_4 rfl ?_
     refine y8 sc4 rfl rfl rfl qU qE ?_
     refine z7 (z4 (z6 (z8 (zp rfl ag85 rfl qN ?_))))
     refine zz ag85 rfl rfl qL qO qU qW ?_
     refine z7 (z4 (zj ?_))
     rw [hR]
     exact xd rfl ag85 rfl qN ⟨a94, 0 + pn4 + 1, c94, wa4, wn4, wc4, ra4, rn4, rc4, sa4, sk4, sd4, rfl, (by rw [List.length_append, hp4, List.length_singleton]; omega), hw4, hr4, hs4, rfl, rfl⟩ qD qF
theorem rpath_spec {a ta : Option Addr} {n c tn tc : Nat} {os : List Ob} {tl : List (List UInt8)} (hn : n ≤ 1000000) (htn : tn ≤ 1000000) (hs : Shf os) (hT : ∀ y, (lkR os y).2.2 = true → PtD os 3 (-1) (lkR os y).1) : ∀ g : Nat, ∀ (pa : Option Addr) (pn pc : Nat) (wa : Option Addr) (wn wc : Nat) (ra : Option Addr) (rn rc : Nat) (sa : Option Addr) (sk sd : Nat) (s : FS) (ov : Bool) (x : ID32) (dp : Int) (B : Nat), 0 ≤ dp → dp + (g : Int) = 41 → RfH os s ov B → B ≤ 1000000 → s.ps.length = pn → s.ws.length = wn → s.rs.length = rn → s.sn.length = sk → Spec Tryz.prog 81 [.agg [.slice pa pn pc, .slice wa wn wc, .slice ra rn rc, .slice sa sk sd, .bool ov].toArray, .slice a n c, .slice ta tn tc, S x.1, .int .i64 dp] [rsl 3 a n c (os.map obR), rsl 1 ta tn tc (tl.map ys), rsl 1 pa pn pc (((s.ps).map (·.1)).map ys), rsl 3 wa wn wc ((s.ws).map wnR), rsl 1 ra rn rc (((s.rs).map (·.1)).map ys), rsl 1 sa sk sd (((s.sn).map (·.1)).map ys)] [] (fun v D' M' => ∃ (pa2 : Option Addr) (pn2 pc2 : Nat) (wa2 : Option Addr) (wn2 wc2 : Nat) (ra2 : Option Addr) (rn2 rc2 : Nat) (sa2 : Option Addr) (sk2 sd2 : Nat), v = .agg [.slice pa2 pn2 pc2, .slice wa2 wn2 wc2, .slice ra2 rn2 rc2, .slice sa2 sk2 sd2, .bool (rpF os (fun y : ID32 => decide (y.1 ∈ tl)) g x s ov).2].toArray ∧ ((rpF os (fun y : ID32 => decide (y.1 ∈ tl)) g x s ov).1.ps.length = pn2) ∧ ((rpF os (fun y : ID32 => decide (y.1 ∈ tl)) g x s ov).1.ws.length = wn2) ∧ ((rpF os (fun y : ID32 => decide (y.1 ∈ tl)) g x s ov).1.rs.length = rn2) ∧ ((rpF os (fun y : ID32 => decide (y.1 ∈ tl)) g x s ov).1.sn.length = sk2) ∧ D' = [rsl 1 pa2 pn2 pc2 ((((rpF os (fun y : ID32 => decide (y.1 ∈ tl)) g x s ov).1.ps).map (·.1)).map ys), rsl 3 wa2 wn2 wc2 (((rpF os (fun y : ID32 => decide (y.1 ∈ tl)) g x s ov).1.ws).map wnR), rsl 1 ra2 rn2 rc2 ((((rpF os (fun y : ID32 => decide (y.1 ∈ tl)) g x s ov).1.rs).map (·.1)).map ys), rsl 1 sa2 sk2 sd2 ((((rpF os (fun y : ID32 => decide (y.1 ∈ tl)) g x s ov).1.sn).map (·.1)).map ys)] ∧ M' = [])
 | 0, _, _, _, _, _, _, _, _, _, _, _, _, _, _, _, _, _, h0, h1, h2, h3, h4, h5, h6, h7 => rpath_step hn htn hs hT h0 h1 h2 h3 h4 h5 h6 h7 fun g' h => absurd h (Nat.succ_ne_zero g')
 | g + 1, _, _, _, _, _, _, _, _, _, _, _, _, _, _, _, _, _, h0, h1, h2, h3, h4, h5, h6, h7 => rpath_step hn htn hs hT h0 h1 h2 h3 h4 h5 h6 h7 fun g' h => Nat.succ.inj h ▸ rpath_spec hn htn hs hT g
end Cv
