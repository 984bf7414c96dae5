/-
  The walks: the reference of wants.
-/
import Derived.Test.YtahkbpiinbepcaaGreatLM22
import Derived.Test.YtahkbpiinbepcaaGreatProg
import Derived.KernelRfl
set_option linter.unusedVariables false
set_option linter.unusedSimpArgs false
set_option linter.unusedSectionVars false
set_option maxHeartbeats 400000
set_option maxRecDepth 10000
namespace Cv
open Go Go.Proofs
/-! ## the reference's front: the plain model -/
@[reducible] def wnR (x : Wnt) : List Value := [.int .i64 x.1, S x.2.1.1, .int .i64 x.2.2]
theorem one_wr {x : Wnt} : ∀ u ∈ wnR x, u.oneCell' = true := fun u hu => by
  simp only [wnR, List.mem_cons, List.not_mem_nil, or_false] at hu
  rcases hu with rfl | rfl | rfl <;> rfl
theorem one_wrs {l : List Wnt} : ∀ u ∈ (l.map wnR).flatten, u.oneCell' = true := fun u hu => by
  obtain ⟨r, hr, hu⟩ := List.mem_flatten.1 hu
  obtain ⟨x, _, rfl⟩ := List.mem_map.1 hr
  exact one_wr u hu
def nwR (ws : List Wnt) (x : Wnt) : List Wnt := if x ∈ ws then ws else ws ++ [x]
theorem nwR_in {ws : List Wnt} {x : Wnt} (h : x ∈ ws) : nwR ws x = ws := if_pos h
theorem nwR_new {ws : List Wnt} {x : Wnt} (h : x ∉ ws) : nwR ws x = ws ++ [x] := if_neg h
theorem nwR_le (ws : List Wnt) (x : Wnt) : (nwR ws x).length ≤ ws.length + 1 := by
  unfold nwR; split
  · omega
  · rw [List.length_append, List.length_singleton]; omega
theorem ndW_no {os : List Ob} {ws : List Wnt} {x : Wnt} (h : ndB os x = false) : ndW os ws x = nwR ws x := by unfold ndW nwR; rw [if_neg (by rw [h]; decide)]
structure HsF (os : List Ob) (kd : Int) (x : ID32) (k : Int) : Prop where
  no : k < 0 → ∀ m, ndB os (kd, x, m) = false
  yes : ¬ k < 0 → (∃ i o, k = ((i : Nat) : Int) ∧ os[i]? = some o ∧ o = getO os x) ∧ ∀ m, ndB os (kd, x, m) = true
theorem HsF.hit {os : List Ob} {kd : Int} {x : ID32} {i : Nat} {o : Ob} (h : os[i]? = some o) (g : goF os x = some o) (e : o.1 = kd) : HsF os kd x (i : Int) where
  no q := by omega
  yes _ := ⟨⟨i, o, rfl, h, (getO_hit g).symm⟩, fun m => decide_eq_true ⟨getE_hit g, by show (getO os x).1 = kd; rw [getO_hit g]; exact e⟩⟩
theorem HsF.gone {os : List Ob} {kd : Int} {x : ID32} (g : goF os x = none) : HsF os kd x (-1) where
  no _ m := decide_eq_false fun q => by have := q.1; rw [getE_miss g] at this; exact absurd this (by decide)
  yes e := by omega
theorem HsF.other {os : List Ob} {kd : Int} {x : ID32} {o : Ob} (g : goF os x = some o) (e : ¬ o.1 = kd) : HsF os kd x (-1) where
  no _ m := decide_eq_false fun q => e (by have : (getO os x).1 = kd := q.2; rw [getO_hit g] at this; exact this)
  yes e := by omega
/-! ### trees, by the reference -/
abbrev Gst := Stp × Nat
def fT (os : List Ob) (l : List Gst) (s : List Wnt × Bool) : List Wnt × Bool := l.foldl (fun s g => stp (ptF os g.2 g.1.2) s g.1.1) s
def wgt : List Gst → Nat
  | [] => 0
  | g :: l => 9 ^ g.2 + wgt l
theorem wgt_app : ∀ l m : List Gst, wgt (l ++ m) = wgt l + wgt m
  | [], m => by rw [List.nil_append, wgt, Nat.zero_add]
  | g :: l, m => by rw [List.cons_append, wgt, wgt, wgt_app l m, Nat.add_assoc]
structure TfI (os : List Ob) (r : Pt) (w0 : List Wnt) (lf : List Stp) (s : List Wnt × Bool) (i : Nat) (gs : List Gst) : Prop where
  ls : gs.map (·.1) = lf
  ok : ∀ g ∈ gs, PtD os g.2 g.1.2 g.1.1 ∧ -1 ≤ g.1.2 ∧ g.1.2 ≤ 8
  eq : fT os gs s = ptF os 3 (-1) r w0
  bd : i + wgt gs ≤ 729
theorem TfI.start {os : List Ob} {r : Pt} {w0 : List Wnt} (h : PtD os 3 (-1) r) : TfI os r w0 [(r, -1)] (w0, true) 0 [((r, -1), 3)] := by
  refine ⟨rfl, fun g hg => ?_, ?_, by show 0 + (9 ^ 3 + 0) ≤ 729; decide⟩
  · obtain rfl : g = ((r, -1), 3) := by simpa using hg
    exact ⟨h, Int.le_refl _, by show (-1 : Int) ≤ 8; decide⟩
  · show stp (ptF os 3 (-1)) (w0, true) r = _
    show ((ptF os 3 (-1) r w0).1, (ptF os 3 (-1) r w0).2 && true) = _
    rw [Bool.and_true]
theorem TfI.pop {os : List Ob} {r : Pt} {w0 : List Wnt} {p : Pt} {k : Int} {lr : List Stp} {s : List Wnt × Bool} {i : Nat} {gs : List Gst} (h : TfI os r w0 ((p, k) :: lr) s i gs) : ∃ d gr, gs = ((p, k), d + 1) :: gr ∧ PtD os (d + 1) k p ∧ -1 ≤ k ∧ k ≤ 8 := by
  have e := h.ls
  match gs, h, e with
  | [], _, e => cases e
  | (g, 0) :: gr, h, e => exact absurd (h.ok _ (List.mem_cons_self ..)).1 id
  | (g, d + 1) :: gr, h, e =>
    rw [List.map_cons] at e
    have e1 : g = (p, k) := (List.cons.inj e).1
    subst e1
    have := h.ok _ (List.mem_cons_self ..)
    exact ⟨d, gr, rfl, this.1, this.2.1, this.2.2⟩
theorem TfI.step {os : List Ob} {r : Pt} {w0 : List Wnt} {p : Pt} {k : Int} {lr : List Stp} {s s' : List Wnt × Bool} {i d : Nat} {gr : List Gst} (h : TfI os r w0 ((p, k) :: lr) s i (((p, k), d + 1) :: gr)) (e : stp (ptF os (d + 1) k) s p = s') : TfI os r w0 lr s' (i + 1) gr := by
  have h1 := h.ls
  rw [List.map_cons] at h1
  have h2 := h.bd
  rw [wgt] at h2
  have h3 : 1 ≤ 9 ^ (d + 1) := Nat.one_le_pow _ _ (by decide)
  refine ⟨(List.cons.inj h1).2, fun g hg => h.ok g (List.mem_cons_of_mem _ hg), ?_, ?_⟩
  · rw [← h.eq, ← e]; rfl
  · dsimp only at h2; omega
theorem stp_and {g : Pt → List Wnt → List Wnt × Bool} : ∀ (l : List Pt) (ws : List Wnt) (b : Bool), l.foldl (stp g) (ws, b) = ((l.foldl (stp g) (ws, true)).1, (l.foldl (stp g) (ws, true)).2 && b)
  | [], ws, b => by simp
  | q :: l, ws, b => by
    rw [List.foldl_cons, List.foldl_cons]
    show l.foldl (stp g) ((g q ws).1, (g q ws).2 && b) = ((l.foldl (stp g) ((g q ws).1, (g q ws).2 && true)).1, (l.foldl (stp g) ((g q ws).1, (g q ws).2 && true)).2 && b)
    rw [Bool.and_true, stp_and l (g q ws).1 ((g q ws).2 && b), stp_and l (g q ws).1 (g q ws).2]
    dsimp only
    rw [Bool.and_assoc]
theorem fT_kids {os : List Ob} {d : Nat} {k : Int} : ∀ (l : List Pt) (gr : List Gst) (s : List Wnt × Bool), fT os (l.map (fun q => ((q, k), d)) ++ gr) s = fT os gr (l.foldl (stp (ptF os d k)) s)
  | [], gr, s => rfl
  | q :: l, gr, s => by
    rw [List.map_cons, List.cons_append, List.foldl_cons, ← fT_kids l gr]; rfl
theorem wgt_kids {d : Nat} {k : Int} : ∀ l : List Pt, wgt (l.map fun q => ((q, k), d)) = l.length * 9 ^ d
  | [] => by simp [wgt]
  | q :: l => by rw [List.map_cons, wgt, wgt_kids l, List.length_cons, Nat.add_mul]; show 9 ^ d + _ = _; omega
theorem TfI.go {os : List Ob} {r : Pt} {w0 : List Wnt} {p : Pt} {k : Int} {lr : List Stp} {s : List Wnt × Bool} {i d : Nat} {gr : List Gst} {o : Ob} {z : Nat × List Pt × Int} (h : TfI os r w0 ((p, k) :: lr) s i (((p, k), d + 1) :: gr)) (h0 : k ≠ 0) (hb : ndB os (2, p.1, 292) = true) (ho : o = getO os p.1) (hz : z = nodR o.2.2) (he : z.2.2 = 0) (h8 : z.2.1.length ≤ 8) (hk : 1 ≤ z.1 ∧ z.1 ≤ 8) :
    TfI os r w0 (mor z z.2.1.length ++ lr) s (i + 1) (z.2.1.map (fun q => ((q, ((z.1 : Nat) : Int) - 1), d)) ++ gr) := by
  have h1 := h.ls
  rw [List.map_cons] at h1
  have h2 := h.bd
  rw [wgt] at h2
  dsimp only at h2
  have hp := (h.ok _ (List.mem_cons_self ..)).1
  refine ⟨?_, fun g hg => ?_, ?_, ?_⟩
  · rw [List.map_append, (List.cons.inj h1).2, List.map_map, mor, List.take_length]; rfl
  · rcases List.mem_append.1 hg with q | q
    · obtain ⟨u, hu, rfl⟩ := List.mem_map.1 q
      exact ⟨hp.down h0 hb ho hz he hu, by dsimp only; omega, by dsimp only; omega⟩
    · exact h.ok g (List.mem_cons_of_mem _ q)
  · rw [fT_kids, ← h.eq]
    show _ = fT os gr (stp (ptF os (d + 1) k) s p)
    have : stp (ptF os (d + 1) k) s p = z.2.1.foldl (stp (ptF os d (((z.1 : Nat) : Int) - 1))) s := by
      show ((ptF os (d + 1) k p s.1).1, (ptF os (d + 1) k p s.1).2 && s.2) = _
      rw [pt_n h0 hb ho hz he]
      obtain ⟨a, b⟩ := s
      rw [stp_and z.2.1 a b]
    rw [this]
  · rw [wgt_app, wgt_kids]
    have : z.2.1.length * 9 ^ d ≤ 8 * 9 ^ d := Nat.mul_le_mul_right _ h8
    have h3 : 1 ≤ 9 ^ d := Nat.one_le_pow _ _ (by decide)
    rw [Nat.pow_succ] at h2
    omega
theorem TfI.fin {os : List Ob} {r : Pt} {w0 : List Wnt} {lf : List Stp} {s : List Wnt × Bool} {i : Nat} {gs : List Gst} (h : TfI os r w0 lf s i gs) (e : ¬ (i < 40000 ∧ 0 < lf.length)) : s = ptF os 3 (-1) r w0 := by
  have h1 := h.bd
  have h2 := h.ls
  have : lf = [] := List.length_eq_zero_iff.1 (by omega)
  subst this
  have : gs = [] := List.map_eq_nil_iff.1 h2
  subst this
  exact h.eq
theorem st_leaf1 {os : List Ob} {d : Nat} {p : Pt} {s : List Wnt × Bool} (h : ndB os (1, p.1, p.2) = true) : stp (ptF os (d + 1) 0) s p = s := by
  show ((ptF os (d + 1) 0 p s.1).1, (ptF os (d + 1) 0 p s.1).2 && s.2) = s
  rw [pt_0, ndW_t h, h]; rfl
theorem st_leaf0 {os : List Ob} {d : Nat} {p : Pt} {s : List Wnt × Bool} (h : ndB os (1, p.1, p.2) = false) : stp (ptF os (d + 1) 0) s p = (nwR s.1 (1, p.1, p.2), false) := by
  show ((ptF os (d + 1) 0 p s.1).1, (ptF os (d + 1) 0 p s.1).2 && s.2) = _
  rw [pt_0, ndW_no h, h]; rfl
theorem st_node0 {os : List Ob} {d : Nat} {k : Int} {p : Pt} {s : List Wnt × Bool} (h0 : k ≠ 0) (h : ndB os (2, p.1, 292) = false) : stp (ptF os (d + 1) k) s p = (nwR s.1 (2, p.1, 292), false) := by
  show ((ptF os (d + 1) k p s.1).1, (ptF os (d + 1) k p s.1).2 && s.2) = _
  rw [pt_m h0 h, ndW_no h]; rfl
theorem st_err {os : List Ob} {d : Nat} {k : Int} {p : Pt} {s : List Wnt × Bool} {o : Ob} {z : Nat × List Pt × Int} (h0 : k ≠ 0) (h : ndB os (2, p.1, 292) = true) (ho : o = getO os p.1) (hz : z = nodR o.2.2) (e : z.2.2 ≠ 0) : stp (ptF os (d + 1) k) s p = s := by
  show ((ptF os (d + 1) k p s.1).1, (ptF os (d + 1) k p s.1).2 && s.2) = s
  rw [pt_e h0 h ho (by rw [← hz]; exact e)]; rfl
theorem wgt_pos : ∀ gs : List Gst, gs.length ≤ wgt gs
  | [] => Nat.le_refl _
  | g :: l => by
    have := wgt_pos l
    have h3 : 1 ≤ 9 ^ g.2 := Nat.one_le_pow _ _ (by decide)
    rw [wgt, List.length_cons]; omega
theorem ag153 : Ag Tryz.prog 153 3 := fun w => ⟨by kernel_rfl, by kernel_rfl⟩
theorem el153 : El Tryz.prog 153 3 32 := ⟨_, _, rfl, rfl, by kernel_rfl, by kernel_rfl, by kernel_rfl⟩
theorem zv85 : ∀ w, (zeroValue 85).run Tryz.prog w = .ok (Value.agg #[Value.slice none 0 0, Value.slice none 0 0, Value.slice none 0 0, Value.slice none 0 0, Value.bool false]) w := fun w => by kernel_rfl
theorem ze85 : Ze Tryz.prog 85 [Value.slice none 0 0, Value.slice none 0 0, Value.slice none 0 0, Value.slice none 0 0, Value.bool false] := ⟨_, rfl, zv85⟩
theorem fo85_1 : Fo Tryz.prog 85 1 1 := fun a w => by kernel_rfl
theorem sc83 : Sc Tryz.prog 83 := fun w => ⟨by kernel_rfl, by kernel_rfl⟩
theorem sz153 : Sz Tryz.prog 153 3 := fun w => by kernel_rfl
theorem zv153 : ∀ w, (zeroValue 153).run Tryz.prog w = .ok (Value.agg #[Value.int .i64 0, S [], Value.int .i64 0]) w := fun w => by kernel_rfl
theorem ze153 : Ze Tryz.prog 153 [Value.int .i64 0, S [], Value.int .i64 0] := ⟨_, rfl, zv153⟩
theorem ag85 : Ag Tryz.prog 85 5 := fun w => ⟨by kernel_rfl, by kernel_rfl⟩
theorem bs83 : Bs Tryz.prog 83 153 3 [Value.int .i64 0, S [], Value.int .i64 0] := bs_of yP (fun w => by kernel_rfl) zv153 rfl rfl jD
theorem rhas_spec {a : Option Addr} {n c : Nat} {os : List Ob} {x : ID32} {kd : Int} (hn : n ≤ 1000000) : Spec Tryz.prog 109 [.slice a n c, .int .i64 kd, S x.1] [rsl 3 a n c (os.map obR)] [] (fun v D' M' => ∃ (k : Int), v = .int .i64 k ∧ (HsF os kd x k) ∧ D' = [] ∧ M' = []) := by
 refine zI (n := 23) Tryz.func109 ?_
 intro σ D M
 refine yC (a := a) (len := n) (cap := c) (rows := os.map obR) qM (fun hol hoc => ?_)
 rw [List.length_map] at hol
 refine z6 (z8 (z9 rfl rfl (z7 (z4 (z6 (z8 (z5 rfl rfl (z5 rfl rfl (zC rfl (ev2 rfl rfl) qD qS (rget_spec (os := os) (x := x) hn) ?_)))))))))
 rintro _ _ _ ⟨k, rfl, hk, rfl, rfl⟩
 refine zy qA qA ?_
 have hklo := hk.lo
 have hkhi := hk.hi
 refine z9 rfl rfl (z7 (z4 (z6 (z6 ?_))))
 rcases Int.lt_or_le k 0 with hk0 | hk0
 ·skip
  refine z8 (z5 rfl rfl (yS rfl rfl rfl (z5 rfl rfl (zv (t := 13) rfl (show _ = Value.bool false from congrArg Value.bool (decide_eq_false jO)) ?_))))
  refine zh (dj := 13) (c := false) rfl rfl rfl rfl rfl jD (zh (dj := 13) (c := false) rfl rfl rfl rfl rfl jD (zh (dj := 13) (c := false) rfl rfl rfl rfl rfl jD (zh (dj := 13) (c := false) rfl rfl rfl rfl rfl jD (zh (dj := 13) (c := false) rfl rfl rfl rfl rfl jD (zh (dj := 13) (c := false) rfl rfl rfl rfl rfl jD (zh (dj := 13) (c := false) rfl rfl rfl rfl rfl jD (y9 rfl rfl rfl (z7 (z4 (yR rfl rfl ?_))))))))))
  exact zm (z4 (z6 (z8 (z9 rfl rfl (z7 (z4 (zj (zA rfl rfl ⟨_, rfl, .gone (hk.no hk0), rfl, rfl⟩ qD qF))))))))
 ·skip
  obtain ⟨i, o, rfl, hgi, hgo⟩ := hk.yes jO
  have hgr : (os.map obR)[i]? = some (obR o) := zS hgi
  have hin : i < n := by rw [← hol]; exact (List.getElem?_eq_some_iff.1 hgi).1
  refine z8 (z5 rfl rfl (yS rfl rfl rfl (z5 rfl rfl (zv (t := 13) rfl (show _ = Value.bool true from congrArg Value.bool (decide_eq_true hk0)) ?_))))
  refine zf (dj := 13) rfl rfl rfl (z5 rfl rfl (zf (dj := 13) rfl rfl rfl (z5 rfl rfl (zf (dj := 13) rfl rfl rfl (yH (i := i) rfl xq sz118 rfl rfl qM jR qG (fun b16 o16 => ?_))))))
  refine zf (dj := 13) rfl rfl rfl (zg rfl fo118_0 rfl ?_)
  refine zf (dj := 13) rfl rfl rfl (zi rfl sc3 rfl qC ?_)
  refine zf (dj := 13) rfl rfl rfl (z5 rfl rfl (zf (dj := 13) rfl rfl rfl (yn rfl rfl rfl (y6 rfl rfl rfl (z7 (z4 (zo rfl (fun h21 => ?_) (fun h21 => ?_))))))))
  ·try simp only [dq] at h21
   exact z6 (z8 (z5 rfl rfl (z9 rfl rfl (z7 (z4 (zj (zx (zA rfl rfl ⟨_, rfl, .hit hgi hgo h21, rfl, rfl⟩ qD qF))))))))
  ·try simp only [dq] at h21
   exact zm (z4 (z6 (z8 (z9 rfl rfl (z7 (z4 (zj (zA rfl rfl ⟨_, rfl, .other hgo h21, rfl, rfl⟩ qD qF))))))))
theorem rneed_spec {pa wa ra sa : Option Addr} {pn pc wn wc rn rc sn sc : Nat} {ov : Bool} {ws : List Wnt} {x : Wnt} (hwn : wn ≤ 1000000) : Spec Tryz.prog 110 [.agg [.slice pa pn pc, .slice wa wn wc, .slice ra rn rc, .slice sa sn sc, .bool ov].toArray, .agg (wnR x).toArray] [rsl 3 wa wn wc ((ws).map wnR)] [] (fun v D' M' => ∃ (wa2 : Option Addr) (wn2 wc2 : Nat), v = .agg [.slice pa pn pc, .slice wa2 wn2 wc2, .slice ra rn rc, .slice sa sn sc, .bool ov].toArray ∧ ((nwR ws x).length = wn2) ∧ D' = [rsl 3 wa2 wn2 wc2 ((nwR ws x).map wnR)] ∧ M' = []) := by
 refine zI (n := 28) Tryz.func110 ?_
 intro σ D M
 refine yC (a := wa) (len := wn) (cap := wc) (rows := ws.map wnR) qM (fun hol hoc => ?_)
 rw [List.length_map] at hol
 refine z6 (z8 (yt rfl rfl rfl (fun b2 => ?_)))
 refine yt rfl rfl rfl (fun b3 => ?_)
 refine zL rfl ze85 (fun b4 => ?_)
 refine z7 (yf (A := cl b3 153 (wnR x)) qP ?_)
 refine z4 (z6 (z6 (z8 (zg rfl fo85_1 rfl ?_))))
 refine zi rfl sc83 rfl qC ?_
 refine y1 rfl yP rfl (z5 rfl rfl (z7 (z4 (zu (zY (fun K' D' M' μ => ∃ (i : Nat), (i ≤ wn ∧ x ∉ ws.take i) ∧ K' = [(10, .int .i64 (i : Int))] ∧ D' = [] ∧ M' = [cl b2 85 [.slice pa pn pc, .slice wa wn wc, .slice ra rn rc, .slice sa sn sc, .bool ov]] ∧ μ = wn - i) (.cons (t := 2) rfl <| .cons (t := 3) rfl <| .cons (t := 4) rfl <| .cons (t := 8) rfl <| .cons (t := 9) rfl <| za _) (⟨0, ⟨Nat.zero_le _, by simp⟩, rfl, rfl, rfl, rfl⟩) (.cons (t := 10) rfl <| za _) qD qS ?_)))))
 rintro K1 D1 M1 m1 ⟨i, ⟨hi, hno⟩, rfl, rfl, rfl, rfl⟩
 refine zE qA qA qA ?_
 refine z6 (z8 (zQ rfl rfl rfl (z7 (z4 (z6 (zo rfl (fun h11 => ?_) (fun h11 => ?_)))))))
 ·try simp only [dq] at h11
  refine zm (z4 (z6 (zu (z6 ?_))))
  have hgi : ws[i]? = some (gd ws i) := zJ jO
  obtain ⟨y, hy_⟩ : ∃ z, z = gd ws i := ⟨_, rfl⟩
  rw [← hy_] at hgi
  clear hy_
  have hgr : (ws.map wnR)[i]? = some (wnR y) := zS hgi
  refine z8 (yH (i := i) rfl yP sz153 rfl rfl qM jR qG (fun b12 o12 => ?_))
  refine zp rfl ag153 rfl (x9 qM rfl) ?_
  refine zL rfl ze153 (fun b6 => ?_)
  refine zz ag153 rfl rfl qL qO qU qW ?_
  refine z7 (yf (A := cl b6 153 (wnR y)) qP ?_)
  refine z4 (z6 (z8 (zp rfl ag153 rfl qN ?_)))
  refine zp rfl ag153 rfl qN ?_
  refine L.eqlSt (b := decide (y.1 = x.1) && (decide (y.2.1.1 = x.2.1.1) && (decide (y.2.2 = x.2.2) && true))) qk rfl Tryz.underlying153 qk (A := (wnR y).toArray) (B := (wnR x).toArray) rfl rfl (.cons (FEq.int (dp := 9998) (o := 0) qk yU sc3 rfl rfl rfl) (.cons (FEq.str (dp := 9998) (o := 1) qk yu sc9 rfl rfl rfl) (.cons (FEq.int (dp := 9998) (o := 2) qk yU sc3 rfl rfl rfl) .nil))) ?_
  refine z7 (z4 (zo rfl (fun h16 => ?_) (fun h16 => ?_)))
  ·try simp only [dq] at h16
   have hxy : x ∈ ws := by
    have : y = x := wn_ext h16.1 h16.2.1 h16.2.2.1
    rw [← this]; exact List.mem_of_getElem? hgi
   refine z6 (z8 (zp rfl ag85 rfl qN ?_))
   refine zz ag85 rfl rfl qL qO qU qW ?_
   refine z7 (z4 (zj (y2 (zx (zx (y2 (zx ?_)))))))
   rw [nwR_in hxy]
   exact xd rfl ag85 rfl qN ⟨_, _, _, rfl, hol, rfl, rfl⟩ qD qF
  ·try simp only [dq] at h16
   have hxy : ¬ x = y := fun q => by subst q; rw [decide_eq_true rfl, decide_eq_true rfl, decide_eq_true rfl] at h16; cases h16
   refine zm (zK (z4 (z8 (zH rfl rfl rfl jO ?_))))
   exact z5 rfl rfl (z7 (z4 (zR ⟨i + 1, ⟨by omega, wn_snoc hgi hno hxy⟩, rfl, rfl, rfl, rfl⟩ qI (.cons (t := 10) rfl <| za _) (.cons (t := 2) rfl <| .cons (t := 3) rfl <| .cons (t := 4) rfl <| .cons (t := 8) rfl <| .cons (t := 9) rfl <| za _) qD qD qF)))
 ·try simp only [dq] at h11
  obtain rfl : wn = i := by omega
  rw [List.take_of_length_le jO] at hno
  refine zN (zr (zr (zO (z4 (z6 (yj (fun K' D' M' => ∃ (wa6 : Option Addr) (wc6 : Nat), K' = [] ∧ D' = [] ∧ M' = [cl b2 85 [.slice pa pn pc, .slice wa6 (0 + wn + 1) wc6, .slice ra rn rc, .slice sa sn sc, .bool ov], own 3 153 wa6 (0 + wn + 1) wc6 (([] : List Wnt).map wnR ++ ws.map wnR ++ [[.int .i64 x.1, S x.2.1.1, .int .i64 x.2.2]])]) (M0 := [cl b2 85 [.slice pa pn pc, .slice wa wn wc, .slice ra rn rc, .slice sa sn sc, .bool ov]]) (.cons (t := 2) rfl <| .cons (t := 4) rfl <| za _) qS ?_ ?_))))))
  ·skip
   refine yy (clsL [2, 1, 2, 2, 1, 2, 2, 1, 2]) qk ?_
   refine ze 1 rfl rfl (zg rfl fo85_1 rfl ?_)
   refine zd (ze 4 rfl rfl (zp rfl ag153 rfl qN ?_))
   refine zd (yV (is := [0, 2, 5]) qk jD (yp rfl ?_ <| yp rfl ?_ <| yp rfl ?_ <| yW) )
   ·skip
    refine zZ rfl bs83 jD (zB (out := []) rfl) (fun b19 => ?_)
    refine yI (len := 0) qP (rows := ([] : List Wnt).map wnR) (sz := 3) (by rfl) rfl (by simp) ?_
    refine zq rfl qD ?_
    refine yV (is := [2, 5]) qk jD (yp rfl ?_ <| yp rfl ?_ <| yW) 
    ·skip
     refine zi rfl sc83 rfl qC ?_
     refine zq rfl qD ?_
     refine yV (is := [3, 5]) qk jD (yp rfl ?_ <| yp rfl ?_ <| yW) 
     ·skip
      refine xc rfl yP yP el153 rfl rfl qP (rd_D qM) one_wrs qI qI (fun a22 c22 => ?_)
      refine zq rfl qD ?_
      refine zt 5 rfl (zZ rfl bs83 jD (ym rfl rfl (by first | with_reducible assumption | (simp; done) | (simp only [List.length_map]; with_reducible assumption) | (simp [*]; done) | rfl) (Nat.le_of_ble_eq_true rfl) qR <| zB (out := []) rfl) (fun b24 => ?_))
      refine zq rfl qD ?_
      refine zt 6 rfl (yz rfl yP el153 rfl rfl qP qM rfl (by intro u hu; exact one_wr (x := x) u hu) qI qI (fun a25 c25 => ?_))
      refine zq rfl qD ?_
      refine ze 7 rfl rfl (zg rfl fo85_1 rfl ?_)
      refine zd (zt 8 rfl (y8 sc83 rfl rfl rfl qU qE ?_))
      refine zq rfl qD ?_
      refine y3 qk ?_
      exact z4 (zF ⟨_, _, rfl, rfl, rfl⟩ (za _) (.cons (t := 2) rfl <| .cons (t := 4) rfl <| za _) qD qD qF)
     ·skip
      refine zZ rfl bs83 jD (ym rfl rfl (by first | with_reducible assumption | (simp; done) | (simp only [List.length_map]; with_reducible assumption) | (simp [*]; done) | rfl) (Nat.le_of_ble_eq_true rfl) qR <| zB (out := []) rfl) (fun b24 => ?_)
      refine zq rfl qD ?_
      refine zt 3 rfl (xc rfl yP yP el153 rfl rfl qP (rd_D qM) one_wrs qI qI (fun a22 c22 => ?_))
      refine zq rfl qD ?_
      refine zt 6 rfl (yz rfl yP el153 rfl rfl qP qM rfl (by intro u hu; exact one_wr (x := x) u hu) qI qI (fun a25 c25 => ?_))
      refine zq rfl qD ?_
      refine ze 7 rfl rfl (zg rfl fo85_1 rfl ?_)
      refine zd (zt 8 rfl (y8 sc83 rfl rfl rfl qU qE ?_))
      refine zq rfl qD ?_
      refine y3 qk ?_
      exact z4 (zF ⟨_, _, rfl, rfl, rfl⟩ (za _) (.cons (t := 2) rfl <| .cons (t := 4) rfl <| za _) qD qD qF)
    ·skip
     refine zZ rfl bs83 jD (ym rfl rfl (by first | with_reducible assumption | (simp; done) | (simp only [List.length_map]; with_reducible assumption) | (simp [*]; done) | rfl) (Nat.le_of_ble_eq_true rfl) qR <| zB (out := []) rfl) (fun b24 => ?_)
     refine zq rfl qD ?_
     refine zt 2 rfl (zi rfl sc83 rfl qC ?_)
     refine zq rfl qD ?_
     refine zt 3 rfl (xc rfl yP yP el153 rfl rfl qP (rd_D qM) one_wrs qI qI (fun a22 c22 => ?_))
     refine zq rfl qD ?_
     refine zt 6 rfl (yz rfl yP el153 rfl rfl qP qM rfl (by intro u hu; exact one_wr (x := x) u hu) qI qI (fun a25 c25 => ?_))
     refine zq rfl qD ?_
     refine ze 7 rfl rfl (zg rfl fo85_1 rfl ?_)
     refine zd (zt 8 rfl (y8 sc83 rfl rfl rfl qU qE ?_))
     refine zq rfl qD ?_
     refine y3 qk ?_
     exact z4 (zF ⟨_, _, rfl, rfl, rfl⟩ (za _) (.cons (t := 2) rfl <| .cons (t := 4) rfl <| za _) qD qD qF)
   ·skip
    refine zi rfl sc83 rfl qC ?_
    refine zq rfl qD ?_
    refine yV (is := [0, 5]) qk jD (yp rfl ?_ <| yp rfl ?_ <| yW) 
    ·skip
     refine zZ rfl bs83 jD (zB (out := []) rfl) (fun b19 => ?_)
     refine yI (len := 0) qP (rows := ([] : List Wnt).map wnR) (sz := 3) (by rfl) rfl (by simp) ?_
     refine zq rfl qD ?_
     refine yV (is := [3, 5]) qk jD (yp rfl ?_ <| yp rfl ?_ <| yW) 
     ·skip
      refine xc rfl yP yP el153 rfl rfl qP (rd_D qM) one_wrs qI qI (fun a22 c22 => ?_)
      refine zq rfl qD ?_
      refine zt 5 rfl (zZ rfl bs83 jD (ym rfl rfl (by first | with_reducible assumption | (simp; done) | (simp only [List.length_map]; with_reducible assumption) | (simp [*]; done) | rfl) (Nat.le_of_ble_eq_true rfl) qR <| zB (out := []) rfl) (fun b24 => ?_))
      refine zq rfl qD ?_
      refine zt 6 rfl (yz rfl yP el153 rfl rfl qP qM rfl (by intro u hu; exact one_wr (x := x) u hu) qI qI (fun a25 c25 => ?_))
      refine zq rfl qD ?_
      refine ze 7 rfl rfl (zg rfl fo85_1 rfl ?_)
      refine zd (zt 8 rfl (y8 sc83 rfl rfl rfl qU qE ?_))
      refine zq rfl qD ?_
      refine y3 qk ?_
      exact z4 (zF ⟨_, _, rfl, rfl, rfl⟩ (za _) (.cons (t := 2) rfl <| .cons (t := 4) rfl <| za _) qD qD qF)
     ·skip
      refine zZ rfl bs83 jD (ym rfl rfl (by first | with_reducible assumption | (simp; done) | (simp only [List.length_map]; with_reducible assumption) | (simp [*]; done) | rfl) (Nat.le_of_ble_eq_true rfl) qR <| zB (out := []) rfl) (fun b24 => ?_)
      refine zq rfl qD ?_
      refine zt 3 rfl (xc rfl yP yP el153 rfl rfl qP (rd_D qM) one_wrs qI qI (fun a22 c22 => ?_))
      refine zq rfl qD ?_
      refine zt 6 rfl (yz rfl yP el153 rfl rfl qP qM rfl (by intro u hu; exact one_wr (x := x) u hu) qI qI (fun a25 c25 => ?_))
      refine zq rfl qD ?_
      refine ze 7 rfl rfl (zg rfl fo85_1 rfl ?_)
      refine zd (zt 8 rfl (y8 sc83 rfl rfl rfl qU qE ?_))
      refine zq rfl qD ?_
      refine y3 qk ?_
      exact z4 (zF ⟨_, _, rfl, rfl, rfl⟩ (za _) (.cons (t := 2) rfl <| .cons (t := 4) rfl <| za _) qD qD qF)
    ·skip
     refine zZ rfl bs83 jD (ym rfl rfl (by first | with_reducible assumption | (simp; done) | (simp only [List.length_map]; with_reducible assumption) | (simp [*]; done) | rfl) (Nat.le_of_ble_eq_true rfl) qR <| zB (out := []) rfl) (fun b24 => ?_)
     refine zq rfl qD ?_
     refine zt 0 rfl (zZ rfl bs83 jD (zB (out := []) rfl) (fun b19 => ?_))
     refine yI (len := 0) qP (rows := ([] : List Wnt).map wnR) (sz := 3) (by rfl) rfl (by simp) ?_
     refine zq rfl qD ?_
     refine zt 3 rfl (xc rfl yP yP el153 rfl rfl qP (rd_D qM) one_wrs qI qI (fun a22 c22 => ?_))
     refine zq rfl qD ?_
     refine zt 6 rfl (yz rfl yP el153 rfl rfl qP qM rfl (by intro u hu; exact one_wr (x := x) u hu) qI qI (fun a25 c25 => ?_))
     refine zq rfl qD ?_
     refine ze 7 rfl rfl (zg rfl fo85_1 rfl ?_)
     refine zd (zt 8 rfl (y8 sc83 rfl rfl rfl qU qE ?_))
     refine zq rfl qD ?_
     refine y3 qk ?_
     exact z4 (zF ⟨_, _, rfl, rfl, rfl⟩ (za _) (.cons (t := 2) rfl <| .cons (t := 4) rfl <| za _) qD qD qF)
   ·skip
    refine zZ rfl bs83 jD (ym rfl rfl (by first | with_reducible assumption | (simp; done) | (simp only [List.length_map]; with_reducible assumption) | (simp [*]; done) | rfl) (Nat.le_of_ble_eq_true rfl) qR <| zB (out := []) rfl) (fun b24 => ?_)
    refine zq rfl qD ?_
    refine yV (is := [0, 2]) qk jD (yp rfl ?_ <| yp rfl ?_ <| yW) 
    ·skip
     refine zZ rfl bs83 jD (zB (out := []) rfl) (fun b19 => ?_)
     refine yI (len := 0) qP (rows := ([] : List Wnt).map wnR) (sz := 3) (by rfl) rfl (by simp) ?_
     refine zq rfl qD ?_
     refine zt 2 rfl (zi rfl sc83 rfl qC ?_)
     refine zq rfl qD ?_
     refine zt 3 rfl (xc rfl yP yP el153 rfl rfl qP (rd_D qM) one_wrs qI qI (fun a22 c22 => ?_))
     refine zq rfl qD ?_
     refine zt 6 rfl (yz rfl yP el153 rfl rfl qP qM rfl (by intro u hu; exact one_wr (x := x) u hu) qI qI (fun a25 c25 => ?_))
     refine zq rfl qD ?_
     refine ze 7 rfl rfl (zg rfl fo85_1 rfl ?_)
     refine zd (zt 8 rfl (y8 sc83 rfl rfl rfl qU qE ?_))
     refine zq rfl qD ?_
     refine y3 qk ?_
     exact z4 (zF ⟨_, _, rfl, rfl, rfl⟩ (za _) (.cons (t := 2) rfl <| .cons (t := 4) rfl <| za _) qD qD qF)
    ·skip
     refine zi rfl sc83 rfl qC ?_
     refine zq rfl qD ?_
     refine zt 0 rfl (zZ rfl bs83 jD (zB (out := []) rfl) (fun b19 => ?_))
     refine yI (len := 0) qP (rows := ([] : List Wnt).map wnR) (sz := 3) (by rfl) rfl (by simp) ?_
     refine zq rfl qD ?_
     refine zt 3 rfl (xc rfl yP yP el153 rfl rfl qP (rd_D qM) one_wrs qI qI (fun a22 c22 => ?_))
     refine zq rfl qD ?_
     refine zt 6 rfl (yz rfl yP el153 rfl rfl qP qM rfl (by intro u hu; exact one_wr (x := x) u hu) qI qI (fun a25 c25 => ?_))
     refine zq rfl qD ?_
     refine ze 7 rfl rfl (zg rfl fo85_1 rfl ?_)
     refine zd (zt 8 rfl (y8 sc83 rfl rfl rfl qU qE ?_))
     refine zq rfl qD ?_
     refine y3 qk ?_
     exact z4 (zF ⟨_, _, rfl, rfl, rfl⟩ (za _) (.cons (t := 2) rfl <| .cons (t := 4) rfl <| za _) qD qD qF)
  rintro _ _ _ ⟨wa6, wc6, rfl, rfl, rfl⟩
  refine zE qA qA qA ?_
  refine yg _ ((nwR ws x).map wnR) qP (by rw [nwR_new hno, List.map_append]; rfl) ?_
  refine yA (rows := (nwR ws x).map wnR) qP ?_
  refine z4 (z6 (z8 (zp rfl ag85 rfl qN ?_)))
  refine zz ag85 rfl rfl qL qO qU qW ?_
  exact z7 (z4 (zj (xd rfl ag85 rfl qN ⟨wa6, 0 + wn + 1, wc6, rfl, (by rw [nwR_new hno, List.length_append, hol, List.length_singleton]; omega), rfl, rfl⟩ qD qF)))
end Cv
set_option maxRecDepth 10000
namespace Cv
open Go Go.Proofs
theorem bu153 : Bu Tryz.prog 153 [Value.int .i64 0, S [], Value.int .i64 0] (fun (i : Nat) => ([(0, 1), (1, 1), (2, 1)] : List (Nat × Nat))[i]?) := bu_of Tryz.underlying153 zv153 rfl (fun w => by kernel_rfl)
theorem rftree_spec {a pa wa ra sa : Option Addr} {n c pn pc wn wc rn rc sn sc : Nat} {ov : Bool} {os : List Ob} {ws : List Wnt} {r : Pt} (hn : n ≤ 1000000) (hs : Shf os) (hd : PtD os 3 (-1) r) (hwl : ws.length = wn) (hwn : wn ≤ 100000) : Spec Tryz.prog 111 [.agg [.slice pa pn pc, .slice wa wn wc, .slice ra rn rc, .slice sa sn sc, .bool ov].toArray, .slice a n c, .agg (ptR r).toArray] [rsl 3 a n c (os.map obR), rsl 3 wa wn wc ((ws).map wnR)] [] (fun v D' M' => ∃ (wa2 : Option Addr) (wn2 wc2 : Nat), v = .tuple #[.agg [.slice pa pn pc, .slice wa2 wn2 wc2, .slice ra rn rc, .slice sa sn sc, .bool ov].toArray, .bool (ptF os 3 (-1) r ws).2] ∧ ((ptF os 3 (-1) r ws).1.length = wn2) ∧ D' = [rsl 3 wa2 wn2 wc2 (((ptF os 3 (-1) r ws).1).map wnR)] ∧ M' = []) := by
 refine zI (n := 99) Tryz.func111 ?_
 intro σ D M
 refine yC (a := a) (len := n) (cap := c) (rows := os.map obR) qM (fun hol hoc => ?_)
 rw [List.length_map] at hol
 have hr32 := r.1.2
 refine z6 (z8 (yt rfl rfl rfl (fun b3 => ?_)))
 refine yt rfl rfl rfl (fun b5 => ?_)
 refine zL rfl ze85 (fun b6 => ?_)
 refine z9 rfl rfl (z7 (yf (A := cl b5 105 (ptR r)) qP ?_))
 refine z4 (z6 (z8 (z9 rfl rfl (z7 (z4 (z6 (z8 (zp rfl ag105 rfl qN ?_))))))))
 refine ye rfl bu115 (ym rfl rfl (by first | with_reducible assumption | (simp; done) | (simp only [List.length_map]; with_reducible assumption) | (simp [*]; done) | rfl) (Nat.le_of_ble_eq_true rfl) qR <| zw rfl rfl rfl <| zB (out := []) rfl) ?_
 refine zZ rfl bs116 jD (ym rfl rfl (by first | with_reducible assumption | (simp; done) | (simp only [List.length_map]; with_reducible assumption) | (simp [*]; done) | rfl) (Nat.le_of_ble_eq_true rfl) qR <| zB (out := []) rfl) (fun b20 => ?_)
 refine yI (len := 1) qP (rows := ([(r, -1)] : List Stp).map stR) (sz := 3) (by rfl) rfl (by simp) ?_
 refine yY (rows := ([(r, -1)] : List Stp).map stR) qP ?_
 refine z9 rfl rfl (z7 (z4 (z6 (z6 (z8 (z9 rfl rfl (z7 (z4 (zu (zY (fun K' D' M' μ => ∃ (i n9 c9 wn4 wc4 : Nat) (a9 wa4 : Option Addr) (lf : List Stp) (s : List Wnt × Bool) (gs : List Gst), (TfI os r ws lf s i gs ∧ lf.length = n9 ∧ s.1.length = wn4 ∧ wn4 ≤ wn + i) ∧ K' = [(10, .int .i64 (i : Int)), (9, .slice a9 n9 c9), (8, .bool s.2)] ∧ D' = [rsl 3 a9 n9 c9 ((lf).map stR), rsl 3 wa4 wn4 wc4 ((s.1).map wnR)] ∧ M' = [cl b3 85 [.slice pa pn pc, .slice wa4 wn4 wc4, .slice ra rn rc, .slice sa sn sc, .bool ov]] ∧ μ = 40000 - i) (.cons (t := 1) rfl <| .cons (t := 3) rfl <| .cons (t := 6) rfl <| za _) (⟨0, 1, 1, wn, wc, _, wa, [(r, -1)], (ws, true), _, ⟨.start hd, rfl, hwl, Nat.le_add_right _ _⟩, rfl, rfl, rfl, rfl⟩) (.cons (t := 10) rfl <| .cons (t := 9) rfl <| .cons (t := 8) rfl <| za _) qD qS ?_))))))))))
 rintro K1 D1 M1 m1 ⟨i, n9, c9, wn4, wc4, a9, wa4, lf, s, gs, ⟨hI, hl9, hw4, hwb⟩, rfl, rfl, rfl, rfl⟩
 refine zE qA qA qA ?_
 have hbd0 := hI.bd
 have hgl := wgt_pos gs
 have hgm := congrArg List.length hI.ls
 rw [List.length_map] at hgm
 refine yC (a := a9) (len := n9) (cap := c9) (rows := lf.map stR) qM (fun hxl hxc => ?_)
 clear hxl
 refine z6 (z6 (yj (fun K' D' M' => ∃ (w : Bool), (w = true ↔ (i < 40000 ∧ 0 < n9)) ∧ K' = [(27, .bool w)] ∧ D' = [] ∧ M' = []) (M0 := []) (.cons (t := 1) rfl <| .cons (t := 3) rfl <| .cons (t := 6) rfl <| .cons (t := 8) rfl <| .cons (t := 9) rfl <| .cons (t := 10) rfl <| za _) qS ?_ ?_))
 ·skip
  refine z8 (z5 rfl rfl (zQ rfl rfl rfl (z5 rfl rfl (yK (t := 23) rfl (fun h1 => ?_) (fun h1 => ?_)))))
  ·try simp only [dq] at h1
   exact zf (dj := 23) rfl rfl rfl (z5 rfl rfl (zf (dj := 23) rfl rfl rfl (y1 rfl xt rfl (zf (dj := 23) rfl rfl rfl (yq rfl rfl rfl (y6 rfl rfl rfl (z7 (z4 (zF ⟨_, (by simp_all <;> omega), rfl, rfl, rfl⟩ (.cons (t := 27) rfl <| za _) (.cons (t := 1) rfl <| .cons (t := 3) rfl <| .cons (t := 6) rfl <| .cons (t := 8) rfl <| .cons (t := 9) rfl <| .cons (t := 10) rfl <| za _) qD qD qF)))))))))
  ·try simp only [dq] at h1
   exact zh (dj := 23) (c := false) rfl rfl rfl rfl rfl jD (zh (dj := 23) (c := false) rfl rfl rfl rfl rfl jD (zh (dj := 23) (c := false) rfl rfl rfl rfl rfl jD (y9 rfl rfl rfl (z7 (z4 (zF ⟨_, (by simp_all <;> omega), rfl, rfl, rfl⟩ (.cons (t := 27) rfl <| za _) (.cons (t := 1) rfl <| .cons (t := 3) rfl <| .cons (t := 6) rfl <| .cons (t := 8) rfl <| .cons (t := 9) rfl <| .cons (t := 10) rfl <| za _) qD qD qF))))))
 rintro _ _ _ ⟨w, hw, rfl, rfl, rfl⟩
 refine zE qA qA qA ?_
 refine z4 (zo rfl (fun h27 => ?_) (fun h27 => ?_))
 ·try simp only [dq] at h27
  have hwt := hw.1 h27
  obtain ⟨st, lr, rfl⟩ : ∃ s l, lf = s :: l := List.exists_cons_of_length_pos jO
  obtain ⟨p, k⟩ := st
  obtain ⟨d, gr, rfl, hpd, hk1, hk2⟩ := hI.pop
  have hbd := hI.bd
  have hg0 : (((p, k) :: lr).map stR)[0]? = some (stR (p, k)) := rfl
  have hp32 := p.1.2
  have hl9b := hl9
  rw [List.length_cons] at hl9b
  refine zm (z4 (z6 (zu (z6 (z8 (z5 rfl rfl (yH (i := 0) rfl xt sz115 rfl rfl qM jR qG (fun b31 o31 => ?_))))))))
  refine zp rfl ag115 rfl (x9 qM (stR_len _)) ?_
  refine zL rfl ze115 (fun b11 => ?_)
  refine zz ag115 rfl rfl qL qO qU qW ?_
  refine z7 (yf (A := cl b11 115 (stR (p, k))) qP ?_)
  refine z4 (z6 (z8 (z5 rfl rfl (L.sliceR rfl xt sz115 rfl (Bd.at rfl rfl) Bd.no qM qI qI qI (fun a34 => ?_)))))
  refine L.derive (ψ := rsl 3 a34 (n9 - 1) (c9 - 1) (lr.map stR)) (List.Mem.head _) (fun z H => by rw [tl_row hl9] at H; exact H) ?_
  refine z9 rfl rfl (z7 (z4 (z6 (z6 (z8 (zg rfl fo115_1 rfl ?_))))))
  refine zi rfl sc3 rfl qC ?_
  refine yn rfl rfl rfl (z7 (z4 (zo rfl (fun h37 => ?_) (fun h37 => ?_))))
  ·try simp only [dq] at h37
   obtain rfl : k = 0 := h37
   refine z6 (z6 (z8 (z5 rfl rfl (zg rfl fo115_0 rfl ?_))))
   refine zg rfl fo105_0 rfl ?_
   refine zi rfl sc9 rfl qC ?_
   refine zC rfl (ev3 rfl rfl rfl) qD qS (rhas_spec (os := os) (x := p.1) (kd := 1) jO) ?_
   rintro _ _ _ ⟨k1, rfl, hh1, rfl, rfl⟩
   refine zy qA qA ?_
   refine zQ rfl rfl rfl (z7 (z4 (zo rfl (fun h43 => ?_) (fun h43 => ?_))))
   ·try simp only [dq] at h43
    have hB := hh1.no h43 p.2
    refine z6 (z8 (zp rfl ag85 rfl qN ?_))
    refine zg rfl fo115_0 rfl ?_
    refine zg rfl fo105_0 rfl ?_
    refine zi rfl sc9 rfl qC ?_
    refine zg rfl fo115_0 rfl ?_
    refine zg rfl fo105_1 rfl ?_
    refine zi rfl sc3 rfl qC ?_
    refine ye rfl bu153 (zw rfl rfl rfl <| zw rfl rfl rfl <| zw rfl rfl rfl <| zB (out := []) rfl) ?_
    refine zC rfl (ev2 rfl rfl) qD qS (rneed_spec (ws := s.1) (x := (1, p.1, p.2)) jO) ?_
    rintro _ _ _ ⟨wa5, wn5, wc5, rfl, hw5, rfl, rfl⟩
    refine zy qA qA ?_
    have hnl := nwR_le s.1 (1, p.1, p.2)
    refine zz ag85 rfl rfl qL qO qU qW ?_
    refine z7 (z4 (z8 (z9 rfl rfl (z7 (z4 (zN (zr (zO (z4 (z8 (z5 rfl rfl (zH rfl rfl rfl jO ?_))))))))))))
    exact z9 rfl rfl (z7 (z4 (zR ⟨i + 1, n9 - 1, c9 - 1, wn5, wc5, a34, wa5, lr, (nwR s.1 (1, p.1, p.2), false), gr, ⟨hI.step (st_leaf0 hB), by omega, hw5, by omega⟩, rfl, rfl, rfl, rfl⟩ qI (.cons (t := 10) rfl <| .cons (t := 9) rfl <| .cons (t := 8) rfl <| za _) (.cons (t := 1) rfl <| .cons (t := 3) rfl <| .cons (t := 6) rfl <| za _) qD qD qF)))
   ·try simp only [dq] at h43
    have hB := (hh1.yes h43).2 p.2
    refine zm (z4 (zN (zr (zO (z4 (z8 (z5 rfl rfl (zH rfl rfl rfl jO ?_))))))))
    exact z9 rfl rfl (z7 (z4 (zR ⟨i + 1, n9 - 1, c9 - 1, wn4, wc4, a34, wa4, lr, s, gr, ⟨hI.step (st_leaf1 hB), by omega, hw4, by omega⟩, rfl, rfl, rfl, rfl⟩ qI (.cons (t := 10) rfl <| .cons (t := 9) rfl <| .cons (t := 8) rfl <| za _) (.cons (t := 1) rfl <| .cons (t := 3) rfl <| .cons (t := 6) rfl <| za _) qD qD qF)))
  ·try simp only [dq] at h37
   refine zm (z4 (z6 (z8 (z5 rfl rfl (zg rfl fo115_0 rfl ?_)))))
   refine zg rfl fo105_0 rfl ?_
   refine zi rfl sc9 rfl qC ?_
   refine zC rfl (ev3 rfl rfl rfl) qD qS (rhas_spec (os := os) (x := p.1) (kd := 2) jO) ?_
   rintro _ _ _ ⟨k2, rfl, hh2, rfl, rfl⟩
   refine zy qA qA ?_
   refine z9 rfl rfl (z7 (z4 (z6 (z6 (z8 (z5 rfl rfl (zQ rfl rfl rfl (z7 (z4 (zo rfl (fun h59 => ?_) (fun h59 => ?_)))))))))))
   ·try simp only [dq] at h59
    have hB := hh2.no h59 292
    refine z6 (z8 (zp rfl ag85 rfl qN ?_))
    refine zg rfl fo115_0 rfl ?_
    refine zg rfl fo105_0 rfl ?_
    refine zi rfl sc9 rfl qC ?_
    refine ye rfl bu153 (zw rfl rfl rfl <| zw rfl rfl rfl <| zw rfl rfl rfl <| zB (out := []) rfl) ?_
    refine zC rfl (ev2 rfl rfl) qD qS (rneed_spec (ws := s.1) (x := (2, p.1, 292)) jO) ?_
    rintro _ _ _ ⟨wa5, wn5, wc5, rfl, hw5, rfl, rfl⟩
    refine zy qA qA ?_
    have hnl := nwR_le s.1 (2, p.1, 292)
    refine zz ag85 rfl rfl qL qO qU qW ?_
    refine z7 (z4 (z6 (z8 (z9 rfl rfl (z7 (z4 (zN (zr (zO (z4 (z8 (z5 rfl rfl (zH rfl rfl rfl jO ?_)))))))))))))
    exact z9 rfl rfl (z7 (z4 (zR ⟨i + 1, n9 - 1, c9 - 1, wn5, wc5, a34, wa5, lr, (nwR s.1 (2, p.1, 292), false), gr, ⟨hI.step (st_node0 h37 hB), by omega, hw5, by omega⟩, rfl, rfl, rfl, rfl⟩ qI (.cons (t := 10) rfl <| .cons (t := 9) rfl <| .cons (t := 8) rfl <| za _) (.cons (t := 1) rfl <| .cons (t := 3) rfl <| .cons (t := 6) rfl <| za _) qD qD qF)))
   ·try simp only [dq] at h59
    obtain ⟨⟨ix, o, rfl, hgx, ho⟩, hB2⟩ := hh2.yes h59
    have hB := hB2 292
    have hgr : (os.map obR)[ix]? = some (obR o) := zS hgx
    have hix : ix < n := by rw [← hol]; exact (List.getElem?_eq_some_iff.1 hgx).1
    have hos := hs o (List.mem_of_getElem? hgx)
    have ho32 := o.2.1.2
    refine zm (z4 (z6 (z8 (z5 rfl rfl (z5 rfl rfl (yH (i := ix) rfl xq sz118 rfl rfl qM jR qG (fun b69 o69 => ?_)))))))
    refine zg rfl fo118_2 rfl ?_
    refine zi rfl sc9 rfl qC ?_
    refine zC rfl (ev1 rfl) qD qS (rparse9_spec (s := o.2.2) jO) ?_
    rintro _ _ _ ⟨ka, kn, kc, rfl, hkn, rfl, rfl⟩
    refine zy qA qA ?_
    have hz8 := nodR_len o.2.2
    have hzi := nodR_in o.2.2
    have hzo := @nodR_ok o.2.2
    obtain ⟨z, hz⟩ : ∃ z, z = nodR o.2.2 := ⟨_, rfl⟩
    rw [← hz] at hkn hz8 hzi hzo ⊢
    refine z5 rfl rfl (zV rfl rfl rfl (zV rfl rfl rfl (zL rfl ze121 (fun b13 => ?_))))
    refine zz ag121 rfl rfl qL qO qU qW ?_
    refine z9 rfl rfl (z7 (yf (A := cl b13 121 [.int .i64 (z.1 : Int), .slice ka kn kc]) qP ?_))
    refine z4 (z6 (z6 (z8 (z5 rfl rfl (yJ rfl rfl rfl (z7 (z4 (zo rfl (fun h76 => ?_) (fun h76 => ?_)))))))))
    ·try simp only [dq] at h76
     refine zN (zr (zO (z4 (z8 (z5 rfl rfl (zH rfl rfl rfl jO ?_))))))
     exact z9 rfl rfl (z7 (z4 (zR ⟨i + 1, n9 - 1, c9 - 1, wn4, wc4, a34, wa4, lr, s, gr, ⟨hI.step (st_err h37 hB ho hz h76), by omega, hw4, by omega⟩, rfl, rfl, rfl, rfl⟩ qI (.cons (t := 10) rfl <| .cons (t := 9) rfl <| .cons (t := 8) rfl <| za _) (.cons (t := 1) rfl <| .cons (t := 3) rfl <| .cons (t := 6) rfl <| za _) qD qD qF)))
    ·try simp only [dq] at h76
     have hze : z.2.2 = 0 := Decidable.not_not.1 h76
     have hz1 := chkN_0 (hzo hze)
     refine zm (z4 (z6 (z8 (zZ rfl bs116 jD (zB (out := []) rfl) (fun b77 => ?_)))))
     refine yI (len := 0) qP (rows := (mor z 0).map stR) (sz := 3) (by rfl) rfl (by simp [mor]) ?_
     refine z9 rfl rfl (z7 (z4 (z6 (z6 (z8 (zg rfl fo121_1 rfl ?_))))))
     refine zi rfl sc119 rfl qC ?_
     refine y1 rfl xp rfl (z5 rfl rfl (z7 (z4 (zu (zY (fun K' D' M' μ => ∃ (j c15 : Nat) (a15 : Option Addr), (j ≤ kn) ∧ K' = [(81, .int .i64 (j : Int)), (15, .slice a15 j c15)] ∧ D' = [] ∧ M' = [own 3 115 a15 j c15 ((mor z j).map stR)] ∧ μ = kn - j) (.cons (t := 1) rfl <| .cons (t := 3) rfl <| .cons (t := 6) rfl <| .cons (t := 8) rfl <| .cons (t := 9) rfl <| .cons (t := 10) rfl <| .cons (t := 13) rfl <| .cons (t := 79) rfl <| .cons (t := 80) rfl <| za _) (⟨0, 0, _, Nat.zero_le _, rfl, rfl, rfl, rfl⟩) (.cons (t := 81) rfl <| .cons (t := 15) rfl <| za _) qD qS ?_)))))
     rintro K1 D1 M1 m1 ⟨j, c15, a15, hj, rfl, rfl, rfl, rfl⟩
     refine zE qA qA qA ?_
     refine z6 (z8 (zQ rfl rfl rfl (z7 (z4 (z6 (zo rfl (fun h82 => ?_) (fun h82 => ?_)))))))
     ·try simp only [dq] at h82
      refine zm (z4 (z6 (zu (z6 ?_))))
      have hgq : z.2.1[j]? = some (gd z.2.1 j) := zJ jO
      obtain ⟨q, hq_⟩ : ∃ x, x = gd z.2.1 j := ⟨_, rfl⟩
      rw [← hq_] at hgq
      clear hq_
      have hrq : (z.2.1.map ptR)[j]? = some (ptR q) := zS hgq
      have hq32 := q.1.2
      refine z8 (yH (i := j) rfl xp sz105 rfl rfl qM jR qG (fun b83 o83 => ?_))
      refine zp rfl ag105 rfl (x9 qM (ptR_len _)) ?_
      refine zL rfl ze105 (fun b17 => ?_)
      refine zz ag105 rfl rfl qL qO qU qW ?_
      refine z7 (yf (A := cl b17 105 (ptR q)) qP ?_)
      refine z4 (z8 (z5 rfl rfl (zp rfl ag105 rfl qN ?_)))
      refine zg rfl fo121_0 rfl ?_
      refine zi rfl sc3 rfl qC ?_
      refine y5 rfl rfl rfl jO ?_
      refine ye rfl bu115 (ym rfl rfl (by first | with_reducible assumption | (simp; done) | (simp only [List.length_map]; with_reducible assumption) | (simp [*]; done) | rfl) (Nat.le_of_ble_eq_true rfl) qR <| zw rfl rfl rfl <| zB (out := []) rfl) ?_
      refine zv (t := 90) (u := .agg (stR (q, ((z.1 : Nat) : Int) - 1)).toArray) rfl (by first | rfl | simp) ?_
      refine zZ rfl bs116 jD (ym rfl rfl (by first | with_reducible assumption | (simp; done) | (simp only [List.length_map]; with_reducible assumption) | (simp [*]; done) | rfl) (Nat.le_of_ble_eq_true rfl) qR <| zB (out := []) rfl) (fun b91 => ?_)
      refine yz rfl xt el115 rfl rfl qP qM rfl (by intro u hu; exact one_st (s := (q, ((z.1 : Nat) : Int) - 1)) u hu) qI qI (fun a92 c92 => ?_)
      refine z9 rfl rfl (z7 (zK (z4 (z8 (zH rfl rfl rfl jO ?_)))))
      refine z5 rfl rfl (z7 (z4 (yg _ ((mor z (j + 1)).map stR) qP (by rw [mor_s hgq, List.map_append]; rfl) ?_)))
      exact zR ⟨j + 1, _, _, jO, rfl, rfl, rfl, rfl⟩ qI (.cons (t := 81) rfl <| .cons (t := 15) rfl <| za _) (.cons (t := 1) rfl <| .cons (t := 3) rfl <| .cons (t := 6) rfl <| .cons (t := 8) rfl <| .cons (t := 9) rfl <| .cons (t := 10) rfl <| .cons (t := 13) rfl <| .cons (t := 79) rfl <| .cons (t := 80) rfl <| za _) qD qD qF
     ·try simp only [dq] at h82
      obtain rfl : kn = j := by omega
      refine zN (zr (zr (zO (z4 (z8 (z5 rfl rfl (z5 rfl rfl (xc rfl xt xt el115 rfl rfl qP (rd_D qM) one_sts qI qI (fun a96 c96 => ?_)))))))))
      refine z9 rfl rfl (z7 (zK (z4 (z8 (z5 rfl rfl (zH rfl rfl rfl jO ?_))))))
      refine z9 rfl rfl (z7 (z4 (zU qP (show own 3 115 a96 (kn + (n9 - 1)) c96 ((mor z kn).map stR ++ lr.map stR) = own 3 115 a96 (kn + (n9 - 1)) c96 ((mor z z.2.1.length ++ lr).map stR) from by rw [List.map_append, hkn]) ?_)))
      refine yA (rows := (mor z z.2.1.length ++ lr).map stR) qP ?_
      exact zR ⟨i + 1, kn + (n9 - 1), c96, wn4, wc4, a96, wa4, mor z z.2.1.length ++ lr, s, _, ⟨hI.go h37 hB ho hz hze jO jO, by rw [List.length_append, mor_len (Nat.le_refl _)]; omega, hw4, by omega⟩, rfl, rfl, rfl, rfl⟩ qI (.cons (t := 10) rfl <| .cons (t := 9) rfl <| .cons (t := 8) rfl <| za _) (.cons (t := 1) rfl <| .cons (t := 3) rfl <| .cons (t := 6) rfl <| za _) qD qD qF
 ·try simp only [dq] at h27
  have hse := hI.fin (fun e => by have := hw.2 ⟨e.1, by rw [← hl9]; exact e.2⟩; rw [h27] at this; cases this)
  refine zN (zr (zr (zO (z4 (z6 (z8 (zp rfl ag85 rfl qN ?_)))))))
  refine z5 rfl rfl (zz ag85 rfl rfl qL qO qU qW ?_)
  refine z9 rfl rfl (z7 (z4 (zj ?_)))
  subst hse
  exact yD rfl ag85 rfl qN rfl ⟨_, _, _, rfl, hw4, rfl, rfl⟩ qD qF
end Cv
