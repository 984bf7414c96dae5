/-
  The walks: the reference of trees.
-/
import Derived.Test.YtahkbpiinbepcaaGreatEE15
import Derived.Test.YtahkbpiinbepcaaGreatProg
import Derived.KernelRfl
set_option linter.unusedVariables false
set_option linter.unusedSimpArgs false
set_option linter.unusedSectionVars false
set_option maxHeartbeats 400000
set_option maxRecDepth 10000
namespace Cv
open Go Go.Proofs
/-! ## the reference of trees: its loop -/
abbrev Stp := Pt × Int
@[reducible] def stR (s : Stp) : List Value := [S s.1.1.1, .int .i64 s.1.2, .int .i64 s.2]
theorem stR_len (s : Stp) : (stR s).length = 3 := rfl
theorem one_st {s : Stp} : ∀ u ∈ stR s, u.oneCell' = true := fun u hu => by
  simp only [stR, List.mem_cons, List.not_mem_nil, or_false] at hu
  rcases hu with rfl | rfl | rfl <;> rfl
theorem one_sts {l : List Stp} : ∀ u ∈ (l.map stR).flatten, u.oneCell' = true := fun u hu => by
  obtain ⟨r, hr, hu⟩ := List.mem_flatten.1 hu
  obtain ⟨x, _, rfl⟩ := List.mem_map.1 hr
  exact one_st u hu
def isN (o : Ob) : Bool := decide (o.1 = 2)
def nnd (os : List Ob) : Nat := (os.filter isN).length
def nop (os : List Ob) (op : List ID32) : Nat := (os.filter fun o => decide (o.1 = 2 ∧ o.2.1 ∉ op)).length
def TDn (os : List Ob) (out op : List ID32) (lf : List Stp) (q : Pt) (k : Int) : Prop := goF os q.1 = none ∨ (q.1 ∈ out ∧ (opb os q.1 k → q.1 ∈ op)) ∨ (q, k) ∈ lf
structure TrJ (os : List Ob) (r : Pt) (out op : List ID32) (lf : List Stp) (i : Nat) : Prop where
  asc : out.Pairwise (fun x y => x.1 < y.1)
  so : ∀ z ∈ out, Blw os r (-1) z
  ls : ∀ s ∈ lf, Bel os r (-1) s.1 s.2
  cl : ∀ x ∈ op, ∀ o, goF os x = some o → ∀ q ∈ (nodR o.2.2).2.1, TDn os out op lf q ((((nodR o.2.2).1 : Nat) : Int) - 1)
  rt : TDn os out op lf r (-1)
  bd : i + lf.length + 8 * nop os op ≤ 1 + 8 * nnd os
  ol : op.length + nop os op ≤ nnd os
  lv : ∀ s ∈ lf, -1 ≤ s.2 ∧ s.2 ≤ 8
theorem TrJ.start (os : List Ob) (r : Pt) : TrJ os r [] [] [(r, -1)] 0 := by
  have : nop os [] = nnd os := by
    unfold nop nnd isN
    congr 2
    funext o
    simp
  have hs : ∀ s ∈ [((r, -1) : Stp)], s = (r, -1) := fun s h => by simpa using h
  exact ⟨.nil, fun z h => (by cases h), fun s h => (by rw [hs s h]; exact .base), fun x h => (by cases h), .inr (.inr (by simp)), by rw [this]; simp only [List.length_singleton]; omega, by rw [this]; simp, fun s h => (by rw [hs s h]; show (-1 : Int) ≤ -1 ∧ (-1 : Int) ≤ 8; decide)⟩
theorem TDn.mono {os : List Ob} {out op out' op' : List ID32} {lf lf' : List Stp} {q : Pt} {k : Int} (h : TDn os out op lf q k) (a : ∀ z ∈ out, z ∈ out') (b : ∀ z ∈ op, z ∈ op') (c : (q, k) ∈ lf → TDn os out' op' lf' q k) : TDn os out' op' lf' q k := by
  rcases h with h | ⟨h1, h2⟩ | h
  · exact .inl h
  · exact .inr (.inl ⟨a _ h1, fun x => b _ (h2 x)⟩)
  · exact c h
theorem TrJ.gone {os : List Ob} {r p : Pt} {k : Int} {out op : List ID32} {lf : List Stp} {i : Nat} (h : TrJ os r out op ((p, k) :: lf) i) (g : goF os p.1 = none) : TrJ os r out op lf (i + 1) := by
  have key : ∀ q j, (q, j) ∈ (p, k) :: lf → TDn os out op lf q j := fun q j m => by
    rcases List.mem_cons.1 m with e | e
    · injection e with e1 e2; subst e1; exact .inl g
    · exact .inr (.inr e)
  have hb := h.bd
  rw [List.length_cons] at hb
  exact ⟨h.asc, h.so, fun s hs => h.ls s (List.mem_cons_of_mem _ hs), fun x hx o ho q hq => (h.cl x hx o ho q hq).mono (fun _ z => z) (fun _ z => z) (key q _), h.rt.mono (fun _ z => z) (fun _ z => z) (key r _), by omega, h.ol, fun s hs => h.lv s (List.mem_cons_of_mem _ hs)⟩
theorem with_mem {l : List ID32} {z : ID32} (h : l.Pairwise (fun x y => x.1 < y.1)) : (withF l z).Pairwise (fun x y => x.1 < y.1) ∧ ∀ w, w ∈ withF l z ↔ w ∈ l ∨ w = z := by
  rw [withF_ins]; exact insW_asc z h
theorem TrJ.leaf {os : List Ob} {r p : Pt} {k : Int} {out op : List ID32} {lf : List Stp} {i : Nat} {o : Ob} {z : Nat × List Pt × Int} (h : TrJ os r out op ((p, k) :: lf) i) (g : goF os p.1 = some o) (hz : z = nodR o.2.2) (c : k = 0 ∨ o.1 ≠ 2 ∨ z.2.2 ≠ 0 ∨ p.1 ∈ op) : TrJ os r (withF out p.1) op lf (i + 1) := by
  subst hz
  obtain ⟨w1, w2⟩ := with_mem (z := p.1) h.asc
  have up : ∀ z ∈ out, z ∈ withF out p.1 := fun z hz => (w2 z).2 (.inl hz)
  have key : ∀ q j, (q, j) ∈ (p, k) :: lf → TDn os (withF out p.1) op lf q j := fun q j m => by
    rcases List.mem_cons.1 m with e | e
    · injection e with e1 e2; subst e1; subst e2
      refine .inr (.inl ⟨(w2 _).2 (.inr rfl), fun ⟨b0, o', b1, b2, b3⟩ => ?_⟩)
      rw [g] at b1; injection b1 with b1; subst b1
      rcases c with c | c | c | c
      · exact absurd c b0
      · exact absurd b2 c
      · exact absurd b3 c
      · exact c
    · exact .inr (.inr e)
  have hb := h.bd
  rw [List.length_cons] at hb
  refine ⟨w1, fun w hw => ?_, fun s hs => h.ls s (List.mem_cons_of_mem _ hs), fun x hx o ho q hq => (h.cl x hx o ho q hq).mono up (fun _ z => z) (key q _), h.rt.mono up (fun _ z => z) (key r _), by omega, h.ol, fun s hs => h.lv s (List.mem_cons_of_mem _ hs)⟩
  rcases (w2 w).1 hw with e | e
  · exact h.so w e
  · exact ⟨p, k, h.ls (p, k) (by simp), e.symm, by rw [e, g]; exact fun q => by cases q⟩
def mor (z : Nat × List Pt × Int) (j : Nat) : List Stp := (z.2.1.take j).map fun q => (q, ((z.1 : Nat) : Int) - 1)
theorem mor_s {z : Nat × List Pt × Int} {j : Nat} {q : Pt} (h : z.2.1[j]? = some q) : mor z (j + 1) = mor z j ++ [(q, ((z.1 : Nat) : Int) - 1)] := by
  unfold mor; rw [List.take_add_one, h, List.map_append]; rfl
theorem TrJ.go {os : List Ob} {r p : Pt} {k : Int} {out op : List ID32} {lf : List Stp} {i : Nat} {o : Ob} {z : Nat × List Pt × Int} (h : TrJ os r out op ((p, k) :: lf) i) (g : goF os p.1 = some o) (hz : z = nodR o.2.2) (c : ¬ (k = 0 ∨ o.1 ≠ 2 ∨ z.2.2 ≠ 0 ∨ p.1 ∈ op)) : TrJ os r (withF out p.1) (op ++ [p.1]) (mor z z.2.1.length ++ lf) (i + 1) := by
  subst hz
  obtain ⟨w1, w2⟩ := with_mem (z := p.1) h.asc
  have c0 : k ≠ 0 := fun q => c (.inl q)
  have c1 : o.1 = 2 := Decidable.not_not.1 fun q => c (.inr (.inl q))
  have c2 : (nodR o.2.2).2.2 = 0 := Decidable.not_not.1 fun q => c (.inr (.inr (.inl q)))
  have c3 : p.1 ∉ op := fun q => c (.inr (.inr (.inr q)))
  have hm : ∀ s, s ∈ mor (nodR o.2.2) (nodR o.2.2).2.1.length ↔ ∃ q ∈ (nodR o.2.2).2.1, s = (q, (((nodR o.2.2).1 : Nat) : Int) - 1) := fun s => by
    unfold mor; rw [List.take_length, List.mem_map]
    exact ⟨fun ⟨q, a, b⟩ => ⟨q, a, b.symm⟩, fun ⟨q, a, b⟩ => ⟨q, a, b.symm⟩⟩
  have hk := chkN_0 (nodR_ok c2)
  have up : ∀ z ∈ out, z ∈ withF out p.1 := fun z hz => (w2 z).2 (.inl hz)
  have uo : ∀ z ∈ op, z ∈ op ++ [p.1] := fun z hz => List.mem_append_left _ hz
  have key : ∀ q j, (q, j) ∈ (p, k) :: lf → TDn os (withF out p.1) (op ++ [p.1]) (mor (nodR o.2.2) (nodR o.2.2).2.1.length ++ lf) q j := fun q j m => by
    rcases List.mem_cons.1 m with e | e
    · injection e with e1 e2; subst e1
      exact .inr (.inl ⟨(w2 _).2 (.inr rfl), fun _ => by simp⟩)
    · exact .inr (.inr (List.mem_append_right _ e))
  have hb := h.bd
  have hn : nop os (op ++ [p.1]) + 1 ≤ nop os op := filt_lt (fun y hy => decide_eq_true ⟨(of_decide_eq_true hy).1, fun q => (of_decide_eq_true hy).2 (List.mem_append_left _ q)⟩) ⟨o, (goF_mem g).1, decide_eq_true ⟨c1, by rw [(goF_mem g).2]; exact c3⟩, decide_eq_false fun q => q.2 (by rw [(goF_mem g).2]; simp)⟩
  have hl : (mor (nodR o.2.2) (nodR o.2.2).2.1.length).length = (nodR o.2.2).2.1.length := by unfold mor; rw [List.length_map, List.take_length]
  have ho := h.ol
  rw [List.length_cons] at hb
  refine ⟨w1, fun w hw => ?_, fun s hs => ?_, fun x hx o' ho' q hq => ?_, h.rt.mono up uo (key r _), by rw [List.length_append, hl]; omega, by rw [List.length_append, List.length_singleton]; omega, fun s hs => ?_⟩
  · rcases (w2 w).1 hw with e | e
    · exact h.so w e
    · exact ⟨p, k, h.ls (p, k) (by simp), e.symm, by rw [e, g]; exact fun q => by cases q⟩
  · rcases List.mem_append.1 hs with e | e
    · obtain ⟨q, hq, rfl⟩ := (hm s).1 e
      exact .step (h.ls (p, k) (by simp)) g c0 c1 c2 hq
    · exact h.ls s (List.mem_cons_of_mem _ e)
  · rcases List.mem_append.1 hx with e | e
    · exact (h.cl x e o' ho' q hq).mono up uo (key q _)
    · obtain rfl : x = p.1 := by simpa using e
      rw [g] at ho'; injection ho' with ho'; subst ho'
      exact .inr (.inr (List.mem_append_left _ ((hm _).2 ⟨q, hq, rfl⟩)))
  · rcases List.mem_append.1 hs with e | e
    · obtain ⟨q, hq, rfl⟩ := (hm s).1 e
      show -1 ≤ (((nodR o.2.2).1 : Nat) : Int) - 1 ∧ (((nodR o.2.2).1 : Nat) : Int) - 1 ≤ 8
      omega
    · exact h.lv s (List.mem_cons_of_mem _ e)
structure TrF (os : List Ob) (r : Pt) (us : List ID32) : Prop where
  asc : us.Pairwise (fun x y => x.1 < y.1)
  mem : ∀ z, z ∈ us ↔ Blw os r (-1) z
theorem TrJ.fin {os : List Ob} {r : Pt} {out op : List ID32} {i : Nat} (h : TrJ os r out op [] i) : TrF os r out := by
  refine ⟨h.asc, fun z => ⟨h.so z, fun ⟨q, k, b, e, g⟩ => ?_⟩⟩
  have key : TDn os out op [] q k := by
    clear e g
    induction b with
    | base => exact h.rt
    | step _ g h0 h2 he m ih =>
      rcases ih with ih | ⟨-, ih⟩ | ih
      · rw [g] at ih; cases ih
      · exact h.cl _ (ih ⟨h0, _, g, h2, he⟩) _ g _ m
      · cases ih
  rcases key with d | ⟨d, -⟩ | d
  · rw [e] at d; exact absurd d g
  · rw [← e]; exact d
  · cases d
theorem TrJ.end_ {os : List Ob} {r : Pt} {out op : List ID32} {lf : List Stp} {i : Nat} (h : TrJ os r out op lf i) (hn : nnd os ≤ 249) (e : ¬ (i < 2000 ∧ lf ≠ [])) : lf = [] := by
  have := h.bd
  refine Classical.byContradiction fun c => ?_
  have := List.length_pos_iff.2 c
  exact e ⟨by omega, c⟩
theorem TrJ.olen {os : List Ob} {r : Pt} {out op : List ID32} {lf : List Stp} {i : Nat} (h : TrJ os r out op lf i) : out.length ≤ os.length ∧ op.length ≤ os.length ∧ lf.length ≤ 1 + 8 * os.length ∧ i ≤ 1 + 8 * os.length := by
  have h1 : nnd os ≤ os.length := List.length_filter_le _ _
  have h2 := nd_len (m := os.map (·.2.1)) (asc_nd h.asc) fun z hz => by
    obtain ⟨q, k, b, e, g⟩ := h.so z hz
    exact go_some g
  rw [List.length_map] at h2
  have h3 := h.bd
  have h4 := h.ol
  omega
theorem TrF.len {os : List Ob} {r : Pt} {us : List ID32} (h : TrF os r us) : us.length ≤ os.length := by
  have h2 := nd_len (m := os.map (·.2.1)) (asc_nd h.asc) fun z hz => by
    obtain ⟨q, k, b, e, g⟩ := (h.mem z).1 hz
    exact go_some g
  rwa [List.length_map] at h2
theorem mem_val {op : List ID32} {x : ID32} : x.1 ∈ op.map (·.1) ↔ x ∈ op := by
  constructor
  · intro h
    obtain ⟨y, hy, e⟩ := List.mem_map.1 h
    rw [← Subtype.ext e]; exact hy
  · exact fun h => List.mem_map.2 ⟨x, h, rfl⟩
theorem tl_row {s : Stp} {lr : List Stp} {n : Nat} (h : (s :: lr).length = n) : (((s :: lr).map stR).drop 1).take (n - 1) = lr.map stR := by
  rw [List.length_cons] at h
  exact List.take_of_length_le (by rw [List.length_drop, List.length_map, List.length_cons]; omega)
theorem mor_len {z : Nat × List Pt × Int} {j : Nat} (h : j ≤ z.2.1.length) : (mor z j).length = j := by
  unfold mor; rw [List.length_map, List.length_take]; omega

theorem rtree_spec {a : Option Addr} {n c : Nat} {os : List Ob} {r : Pt} (hn : n ≤ 3000) (hs : Shf os) (hnn : nnd os ≤ 249) : Spec Tryz.prog 60 [.slice a n c, .agg (ptR r).toArray] [rsl 3 a n c (os.map obR)] [] (fun v D' M' => ∃ (a' : Option Addr) (n' c' : Nat) (us : List ID32), v = .slice a' n' c' ∧ (TrF os r us) ∧ (us.length = n') ∧ D' = [rsl 1 a' n' c' (((us).map (·.1)).map ys)] ∧ M' = []) := by
 refine zE (n := 105) Tryz.func60 ?_
 intro σ D M
 refine yx (a := a) (len := n) (cap := c) (rows := os.map obR) qM (fun hol hoc => ?_)
 rw [List.length_map] at hol
 have hr32 := r.1.2
 refine z6 (z8 (yF rfl rfl rfl (fun b3 => ?_)))
 refine z9 rfl rfl (z7 (y9 (A := cl b3 105 (ptR r)) qP ?_))
 refine z4 (z6 (z8 (y7 rfl bs31 jD (zG (out := []) rfl) (fun b16 => ?_))))
 refine yG (len := 0) qP (rows := (([] : List ID32).map (·.1)).map ys) (sz := 1) (by rfl) rfl (by simp) ?_
 refine yM (rows := (([] : List ID32).map (·.1)).map ys) qP ?_
 refine z9 rfl rfl (z7 (z4 (z6 (z8 (y7 rfl bs31 jD (zG (out := []) rfl) (fun b17 => ?_))))))
 refine yG (len := 0) qP (rows := (([] : List ID32).map (·.1)).map ys) (sz := 1) (by rfl) rfl (by simp) ?_
 refine z9 rfl rfl (z7 (z4 (z6 (z8 (zr rfl ag105 rfl qN ?_)))))
 refine yf rfl bu115 (yE rfl rfl (by first | with_reducible assumption | (simp; done) | (simp only [List.length_map]; with_reducible assumption) | (simp [*]; done) | rfl) (Nat.le_of_ble_eq_true rfl) qR <| zx rfl rfl rfl <| zG (out := []) rfl) ?_
 refine y7 rfl bs116 jD (yE rfl rfl (by first | with_reducible assumption | (simp; done) | (simp only [List.length_map]; with_reducible assumption) | (simp [*]; done) | rfl) (Nat.le_of_ble_eq_true rfl) qR <| zG (out := []) rfl) (fun b20 => ?_)
 refine yG (len := 1) qP (rows := ([(r, -1)] : List Stp).map stR) (sz := 3) (by rfl) rfl (by simp) ?_
 refine yM (rows := ([(r, -1)] : List Stp).map stR) qP ?_
 refine z9 rfl rfl (z7 (z4 (z6 (z6 (z8 (z9 rfl rfl (z7 (z4 (zq (zV (fun K' D' M' μ => ∃ (i n5 c5 n6 c6 n7 c7 : Nat) (a5 a6 a7 : Option Addr) (out op : List ID32) (lf : List Stp), (TrJ os r out op lf i ∧ out.length = n5 ∧ op.length = n6 ∧ lf.length = n7) ∧ K' = [(8, .int .i64 (i : Int)), (5, .slice a5 n5 c5), (6, .slice a6 n6 c6), (7, .slice a7 n7 c7)] ∧ D' = [rsl 1 a5 n5 c5 (((out).map (·.1)).map ys), rsl 3 a7 n7 c7 ((lf).map stR)] ∧ M' = [own 1 9 a6 n6 c6 (((op).map (·.1)).map ys)] ∧ μ = 2000 - i) (.cons (t := 0) rfl <| za _) (⟨0, 0, 0, 0, 0, 1, 1, _, _, _, [], [], [(r, -1)], ⟨.start os r, rfl, rfl, rfl⟩, rfl, rfl, rfl, rfl⟩) (.cons (t := 8) rfl <| .cons (t := 5) rfl <| .cons (t := 6) rfl <| .cons (t := 7) rfl <| za _) qD qS ?_))))))))))
 rintro K1 D1 M1 m1 ⟨i, n5, c5, n6, c6, n7, c7, a5, a6, a7, out, op, lf, ⟨hI, hl5, hl6, hl7⟩, rfl, rfl, rfl, rfl⟩
 refine zz qA qA qA ?_
 obtain ⟨hb5, hb6, hb7, hbi⟩ := hI.olen
 refine yx (a := a7) (len := n7) (cap := c7) (rows := lf.map stR) qM (fun hxl hxc => ?_)
 clear hxl
 refine z6 (z6 (yg (fun K' D' M' => ∃ (w : Bool), (w = true ↔ (i < 2000 ∧ 0 < n7)) ∧ K' = [(27, .bool w)] ∧ D' = [] ∧ M' = []) (M0 := []) (.cons (t := 0) rfl <| .cons (t := 5) rfl <| .cons (t := 6) rfl <| .cons (t := 7) rfl <| .cons (t := 8) rfl <| za _) qS ?_ ?_))
 ·skip
  refine z8 (z5 rfl rfl (zQ rfl rfl rfl (z5 rfl rfl (yw (t := 23) rfl (fun h1 => ?_) (fun h1 => ?_)))))
  ·try simp only [dq] at h1
   exact ze (dj := 23) rfl rfl rfl (z5 rfl rfl (ze (dj := 23) rfl rfl rfl (y1 rfl xv rfl (ze (dj := 23) rfl rfl rfl (ym rfl rfl rfl (y2 rfl rfl rfl (z7 (z4 (zH ⟨_, (by simp_all <;> omega), rfl, rfl, rfl⟩ (.cons (t := 27) rfl <| za _) (.cons (t := 0) rfl <| .cons (t := 5) rfl <| .cons (t := 6) rfl <| .cons (t := 7) rfl <| .cons (t := 8) rfl <| za _) qD qD qF)))))))))
  ·try simp only [dq] at h1
   exact zf (dj := 23) (c := false) rfl rfl rfl rfl rfl jD (zf (dj := 23) (c := false) rfl rfl rfl rfl rfl jD (zf (dj := 23) (c := false) rfl rfl rfl rfl rfl jD (y3 rfl rfl rfl (z7 (z4 (zH ⟨_, (by simp_all <;> omega), rfl, rfl, rfl⟩ (.cons (t := 27) rfl <| za _) (.cons (t := 0) rfl <| .cons (t := 5) rfl <| .cons (t := 6) rfl <| .cons (t := 7) rfl <| .cons (t := 8) rfl <| za _) qD qD qF))))))
 rintro _ _ _ ⟨w, hw, rfl, rfl, rfl⟩
 refine zz qA qA qA ?_
 refine z4 (zo rfl (fun h27 => ?_) (fun h27 => ?_))
 ·try simp only [dq] at h27
  have hwt := hw.1 h27
  obtain ⟨s, lr, rfl⟩ : ∃ s l, lf = s :: l := List.exists_cons_of_length_pos jO
  obtain ⟨p, k⟩ := s
  have hg0 : (((p, k) :: lr).map stR)[0]? = some (stR (p, k)) := rfl
  have hp32 := p.1.2
  have hlv := hI.lv (p, k) (by simp)
  have hl7b := hl7
  rw [List.length_cons] at hl7b
  refine zj (z4 (z6 (zq (z6 (z8 (z5 rfl rfl (yq (i := 0) rfl xv sz115 rfl rfl qM jR qG (fun b31 o31 => ?_))))))))
  refine zr rfl ag115 rfl (yX qM (stR_len _)) ?_
  refine zS rfl ze115 (fun b9 => ?_)
  refine zC ag115 rfl rfl qL qO qU qW ?_
  refine z7 (y9 (A := cl b9 115 (stR (p, k))) qP ?_)
  refine z4 (z6 (z8 (z5 rfl rfl (L.sliceR rfl xv sz115 rfl (Bd.at rfl rfl) Bd.no qM qI qI qI (fun a34 => ?_)))))
  refine L.derive (ψ := rsl 3 a34 (n7 - 1) (c7 - 1) (lr.map stR)) (List.Mem.head _) (fun z H => by rw [tl_row hl7] at H; exact H) ?_
  refine z9 rfl rfl (z7 (z4 (z6 (z8 (z5 rfl rfl (zi rfl fo115_0 rfl ?_))))))
  refine zi rfl fo105_0 rfl ?_
  refine zh rfl sc9 rfl qC ?_
  refine zw rfl (ev2 rfl rfl) qD qS (rget_spec (os := os) (x := p.1) jO) ?_
  rintro _ _ _ ⟨kk, rfl, hkx, rfl, rfl⟩
  refine zu qA qA ?_
  have hklo := hkx.lo
  have hkhi := hkx.hi
  refine z9 rfl rfl (z7 (z4 (z6 (z6 (z8 (z5 rfl rfl (zQ rfl rfl rfl (z7 (z4 (zo rfl (fun h41 => ?_) (fun h41 => ?_)))))))))))
  ·try simp only [dq] at h41
   have hgo := hkx.no h41
   refine zM (zp (zN (z4 (z8 (z5 rfl rfl (zA rfl rfl rfl jO ?_))))))
   exact z9 rfl rfl (z7 (z4 (zL ⟨i + 1, n5, c5, n6, c6, n7 - 1, c7 - 1, a5, a6, a34, out, op, lr, ⟨hI.gone hgo, hl5, hl6, by omega⟩, rfl, rfl, rfl, rfl⟩ qI (.cons (t := 8) rfl <| .cons (t := 5) rfl <| .cons (t := 6) rfl <| .cons (t := 7) rfl <| za _) (.cons (t := 0) rfl <| za _) qD qD qF)))
  ·try simp only [dq] at h41
   obtain ⟨ix, o, rfl, hgx, hgo⟩ := hkx.yes h41
   have hgr : (os.map obR)[ix]? = some (obR o) := zR hgx
   have hix : ix < n := by rw [← hol]; exact (List.getElem?_eq_some_iff.1 hgx).1
   have hos := hs o (List.mem_of_getElem? hgx)
   have ho32 := o.2.1.2
   refine zj (z4 (z6 (z8 (z5 rfl rfl (zi rfl fo115_0 rfl ?_)))))
   refine zi rfl fo105_0 rfl ?_
   refine zh rfl sc9 rfl qC ?_
   refine zw rfl (ev2 rfl rfl) qD qS (with_spec (l := out) (z := p.1) jO) ?_
   rintro _ _ _ ⟨wa, wn, wc, rfl, hwn, rfl, rfl⟩
   refine zu qA qA ?_
   refine yM (rows := ((withF out p.1).map (·.1)).map ys) qP ?_
   refine z9 rfl rfl (z7 (z4 (z6 (z8 (z5 rfl rfl (z5 rfl rfl (yq (i := ix) rfl xt sz118 rfl rfl qM jR qG (fun b50 o50 => ?_))))))))
   refine zi rfl fo118_2 rfl ?_
   refine zh rfl sc9 rfl qC ?_
   refine zw rfl (ev1 rfl) qD qS (rparse9_spec (s := o.2.2) jO) ?_
   rintro _ _ _ ⟨ka, kn, kc, rfl, hkn, rfl, rfl⟩
   refine zu qA qA ?_
   have hz8 := nodR_len o.2.2
   have hzi := nodR_in o.2.2
   obtain ⟨z, hz⟩ : ∃ z, z = nodR o.2.2 := ⟨_, rfl⟩
   rw [← hz] at hkn hz8 hzi ⊢
   refine z5 rfl rfl (zO rfl rfl rfl (zO rfl rfl rfl (zS rfl ze121 (fun b11 => ?_))))
   refine zC ag121 rfl rfl qL qO qU qW ?_
   refine z9 rfl rfl (z7 (y9 (A := cl b11 121 [.int .i64 (z.1 : Int), .slice ka kn kc]) qP ?_))
   refine z4 (z6 (z6 (yg (fun K' D' M' => ∃ (w2 : Bool), (w2 = true ↔ (k = 0 ∨ o.1 ≠ 2 ∨ z.2.2 ≠ 0 ∨ p.1 ∈ op)) ∧ K' = [(77, .bool w2)] ∧ D' = [] ∧ M' = [own 1 9 a6 n6 c6 (((op).map (·.1)).map ys)]) (M0 := [own 1 9 a6 n6 c6 (((op).map (·.1)).map ys)]) (.cons (t := 0) rfl <| .cons (t := 5) rfl <| .cons (t := 6) rfl <| .cons (t := 7) rfl <| .cons (t := 8) rfl <| .cons (t := 9) rfl <| .cons (t := 11) rfl <| za _) qS ?_ ?_)))
   ·skip
    refine z8 (zi rfl fo115_1 rfl ?_)
    refine zh rfl sc3 rfl qC ?_
    refine yz rfl rfl rfl (z5 rfl rfl (yw (t := 59) rfl (fun h2 => ?_) (fun h2 => ?_)))
    ·try simp only [dq] at h2
     exact zf (dj := 59) (c := true) rfl rfl rfl rfl rfl jD (zf (dj := 59) (c := true) rfl rfl rfl rfl rfl jD (zf (dj := 59) (c := true) rfl rfl rfl rfl rfl jD (zf (dj := 59) (c := true) rfl rfl rfl rfl rfl jD (zf (dj := 59) (c := true) rfl rfl rfl rfl rfl jD (zf (dj := 59) (c := true) rfl rfl rfl rfl rfl jD (y2 rfl rfl rfl (z5 rfl rfl (zf (dj := 67) (c := true) rfl rfl rfl rfl rfl jD (zf (dj := 67) (c := true) rfl rfl rfl rfl rfl jD (y2 rfl rfl rfl (z5 rfl rfl (zf (dj := 71) (c := true) rfl rfl rfl rfl rfl jD (zf (dj := 71) (c := true) rfl rfl rfl rfl rfl jD (zf (dj := 71) (c := true) rfl rfl rfl rfl rfl jD (zf (dj := 71) (c := true) rfl rfl rfl rfl rfl jD (zf (dj := 71) (c := true) rfl rfl rfl rfl rfl jD (y2 rfl rfl rfl (z7 (z4 (zH ⟨_, (by simp_all), rfl, rfl, rfl⟩ (.cons (t := 77) rfl <| za _) (.cons (t := 0) rfl <| .cons (t := 5) rfl <| .cons (t := 6) rfl <| .cons (t := 7) rfl <| .cons (t := 8) rfl <| .cons (t := 9) rfl <| .cons (t := 11) rfl <| za _) qD qD qF))))))))))))))))))))
    ·try simp only [dq] at h2
     refine ze (dj := 59) rfl rfl rfl (z5 rfl rfl (ze (dj := 59) rfl rfl rfl (z5 rfl rfl (ze (dj := 59) rfl rfl rfl (yq (i := ix) rfl xt sz118 rfl rfl qM jR qG (fun b62 o62 => ?_))))))
     refine ze (dj := 59) rfl rfl rfl (zi rfl fo118_0 rfl ?_)
     refine ze (dj := 59) rfl rfl rfl (zh rfl sc3 rfl qC ?_)
     refine ze (dj := 59) rfl rfl rfl (yh rfl rfl rfl (y3 rfl rfl rfl (z5 rfl rfl (yw (t := 67) rfl (fun h3 => ?_) (fun h3 => ?_)))))
     ·try simp only [dq] at h3
      exact zf (dj := 67) (c := true) rfl rfl rfl rfl rfl jD (zf (dj := 67) (c := true) rfl rfl rfl rfl rfl jD (y2 rfl rfl rfl (z5 rfl rfl (zf (dj := 71) (c := true) rfl rfl rfl rfl rfl jD (zf (dj := 71) (c := true) rfl rfl rfl rfl rfl jD (zf (dj := 71) (c := true) rfl rfl rfl rfl rfl jD (zf (dj := 71) (c := true) rfl rfl rfl rfl rfl jD (zf (dj := 71) (c := true) rfl rfl rfl rfl rfl jD (y2 rfl rfl rfl (z7 (z4 (zH ⟨_, (by simp_all), rfl, rfl, rfl⟩ (.cons (t := 77) rfl <| za _) (.cons (t := 0) rfl <| .cons (t := 5) rfl <| .cons (t := 6) rfl <| .cons (t := 7) rfl <| .cons (t := 8) rfl <| .cons (t := 9) rfl <| .cons (t := 11) rfl <| za _) qD qD qF))))))))))))
     ·try simp only [dq] at h3
      refine ze (dj := 67) rfl rfl rfl (z5 rfl rfl (ze (dj := 67) rfl rfl rfl (yh rfl rfl rfl (y3 rfl rfl rfl (z5 rfl rfl (yw (t := 71) rfl (fun h4 => ?_) (fun h4 => ?_)))))))
      ·try simp only [dq] at h4
       exact zf (dj := 71) (c := true) rfl rfl rfl rfl rfl jD (zf (dj := 71) (c := true) rfl rfl rfl rfl rfl jD (zf (dj := 71) (c := true) rfl rfl rfl rfl rfl jD (zf (dj := 71) (c := true) rfl rfl rfl rfl rfl jD (zf (dj := 71) (c := true) rfl rfl rfl rfl rfl jD (y2 rfl rfl rfl (z7 (z4 (zH ⟨_, (by simp_all), rfl, rfl, rfl⟩ (.cons (t := 77) rfl <| za _) (.cons (t := 0) rfl <| .cons (t := 5) rfl <| .cons (t := 6) rfl <| .cons (t := 7) rfl <| .cons (t := 8) rfl <| .cons (t := 9) rfl <| .cons (t := 11) rfl <| za _) qD qD qF))))))))
      ·try simp only [dq] at h4
       refine ze (dj := 71) rfl rfl rfl (z5 rfl rfl (ze (dj := 71) rfl rfl rfl (zi rfl fo115_0 rfl ?_)))
       refine ze (dj := 71) rfl rfl rfl (zi rfl fo105_0 rfl ?_)
       refine ze (dj := 71) rfl rfl rfl (zh rfl sc9 rfl qC ?_)
       refine ze (dj := 71) rfl rfl rfl (L.callB1 (A := own 1 9 a6 n6 c6 (((op).map (·.1)).map ys)) rfl (ev2 rfl rfl) qS qP (fun z H => rsl_of_own H) (in14_spec (l := op.map (·.1)) (s := p.1.1) jO) ?_)
       rintro _ _ _ ⟨rfl, rfl, rfl⟩
       refine zu AppL.nil qA ?_
       refine zv (t := 76) (u := .bool (decide (p.1 ∈ op))) rfl (congrArg Value.bool (by simp only [mem_val])) ?_
       exact y3 rfl rfl rfl (z7 (z4 (zH ⟨_, (by simp_all), rfl, rfl, rfl⟩ (.cons (t := 77) rfl <| za _) (.cons (t := 0) rfl <| .cons (t := 5) rfl <| .cons (t := 6) rfl <| .cons (t := 7) rfl <| .cons (t := 8) rfl <| .cons (t := 9) rfl <| .cons (t := 11) rfl <| za _) qD qD qF)))
   rintro _ _ _ ⟨w2, hw2, rfl, rfl, rfl⟩
   refine zz qA qA qA ?_
   refine z4 (zo rfl (fun h77 => ?_) (fun h77 => ?_))
   ·try simp only [dq] at h77
    refine zM (zp (zN (z4 (z8 (z5 rfl rfl (zA rfl rfl rfl jO ?_))))))
    exact z9 rfl rfl (z7 (z4 (zL ⟨i + 1, _, _, n6, c6, n7 - 1, c7 - 1, _, a6, a34, withF out p.1, op, lr, ⟨hI.leaf hgo hz (hw2.1 h77), hwn, hl6, by omega⟩, rfl, rfl, rfl, rfl⟩ qI (.cons (t := 8) rfl <| .cons (t := 5) rfl <| .cons (t := 6) rfl <| .cons (t := 7) rfl <| za _) (.cons (t := 0) rfl <| za _) qD qD qF)))
   ·try simp only [dq] at h77
    have hwf2 : ¬ (k = 0 ∨ o.1 ≠ 2 ∨ z.2.2 ≠ 0 ∨ p.1 ∈ op) := fun e => by have := hw2.2 e; rw [h77] at this; cases this
    refine zj (z4 (z6 (z8 (z5 rfl rfl (zi rfl fo115_0 rfl ?_)))))
    refine zi rfl fo105_0 rfl ?_
    refine zh rfl sc9 rfl qC ?_
    refine y7 rfl bs31 jD (zx rfl rfl rfl <| zG (out := []) rfl) (fun b82 => ?_)
    refine yJ rfl yB el9 rfl rfl qP qM rfl qO1 qI qI (fun a83 c83 => ?_)
    refine z9 rfl rfl (z7 (z4 (z6 (z8 (y7 rfl bs116 jD (zG (out := []) rfl) (fun b84 => ?_))))))
    refine yG (len := 0) qP (rows := (mor z 0).map stR) (sz := 3) (by rfl) rfl (by simp [mor]) ?_
    refine z9 rfl rfl (z7 (z4 (z6 (z6 (z8 (zi rfl fo121_1 rfl ?_))))))
    refine zh rfl sc119 rfl qC ?_
    refine y1 rfl xw rfl (z5 rfl rfl (z7 (z4 (zq (zV (fun K' D' M' μ => ∃ (j c13 : Nat) (a13 : Option Addr), (j ≤ kn) ∧ K' = [(88, .int .i64 (j : Int)), (13, .slice a13 j c13)] ∧ D' = [] ∧ M' = [own 3 115 a13 j c13 ((mor z j).map stR)] ∧ μ = kn - j) (.cons (t := 0) rfl <| .cons (t := 5) rfl <| .cons (t := 6) rfl <| .cons (t := 7) rfl <| .cons (t := 8) rfl <| .cons (t := 11) rfl <| .cons (t := 86) rfl <| .cons (t := 87) rfl <| za _) (⟨0, 0, _, Nat.zero_le _, rfl, rfl, rfl, rfl⟩) (.cons (t := 88) rfl <| .cons (t := 13) rfl <| za _) qD qS ?_)))))
    rintro K1 D1 M1 m1 ⟨j, c13, a13, hj, rfl, rfl, rfl, rfl⟩
    refine zz qA qA qA ?_
    refine z6 (z8 (zQ rfl rfl rfl (z7 (z4 (z6 (zo rfl (fun h89 => ?_) (fun h89 => ?_)))))))
    ·try simp only [dq] at h89
     refine zj (z4 (z6 (zq (z6 ?_))))
     have hgq : z.2.1[j]? = some (gd z.2.1 j) := zJ jO
     obtain ⟨q, hq_⟩ : ∃ x, x = gd z.2.1 j := ⟨_, rfl⟩
     rw [← hq_] at hgq
     clear hq_
     have hrq : (z.2.1.map ptR)[j]? = some (ptR q) := zR hgq
     have hq32 := q.1.2
     refine z8 (yq (i := j) rfl xw sz105 rfl rfl qM jR qG (fun b90 o90 => ?_))
     refine zr rfl ag105 rfl (yX qM (ptR_len _)) ?_
     refine zS rfl ze105 (fun b15 => ?_)
     refine zC ag105 rfl rfl qL qO qU qW ?_
     refine z7 (y9 (A := cl b15 105 (ptR q)) qP ?_)
     refine z4 (z8 (z5 rfl rfl (zr rfl ag105 rfl qN ?_)))
     refine zi rfl fo121_0 rfl ?_
     refine zh rfl sc3 rfl qC ?_
     refine y5 rfl rfl rfl jO ?_
     refine yf rfl bu115 (yE rfl rfl (by first | with_reducible assumption | (simp; done) | (simp only [List.length_map]; with_reducible assumption) | (simp [*]; done) | rfl) (Nat.le_of_ble_eq_true rfl) qR <| zx rfl rfl rfl <| zG (out := []) rfl) ?_
     refine zv (t := 97) (u := .agg (stR (q, ((z.1 : Nat) : Int) - 1)).toArray) rfl (by first | rfl | simp) ?_
     refine y7 rfl bs116 jD (yE rfl rfl (by first | with_reducible assumption | (simp; done) | (simp only [List.length_map]; with_reducible assumption) | (simp [*]; done) | rfl) (Nat.le_of_ble_eq_true rfl) qR <| zG (out := []) rfl) (fun b98 => ?_)
     refine yJ rfl xv el115 rfl rfl qP qM rfl (by intro u hu; exact one_st (s := (q, ((z.1 : Nat) : Int) - 1)) u hu) qI qI (fun a99 c99 => ?_)
     refine z9 rfl rfl (z7 (zI (z4 (z8 (zA rfl rfl rfl jO ?_)))))
     refine z5 rfl rfl (z7 (z4 (y4 _ ((mor z (j + 1)).map stR) qP (by rw [mor_s hgq, List.map_append]; rfl) ?_)))
     exact zL ⟨j + 1, _, _, jO, rfl, rfl, rfl, rfl⟩ qI (.cons (t := 88) rfl <| .cons (t := 13) rfl <| za _) (.cons (t := 0) rfl <| .cons (t := 5) rfl <| .cons (t := 6) rfl <| .cons (t := 7) rfl <| .cons (t := 8) rfl <| .cons (t := 11) rfl <| .cons (t := 86) rfl <| .cons (t := 87) rfl <| za _) qD qD qF
    ·try simp only [dq] at h89
     obtain rfl : kn = j := by omega
     refine zM (zp (zp (zN (z4 (z8 (z5 rfl rfl (z5 rfl rfl (xm rfl xv xv el115 rfl rfl qP (rd_D qM) one_sts qI qI (fun a103 c103 => ?_)))))))))
     refine z9 rfl rfl (z7 (zI (z4 (z8 (z5 rfl rfl (zA rfl rfl rfl jO ?_))))))
     refine z9 rfl rfl (z7 (z4 (zY qP (show own 3 115 a103 (kn + (n7 - 1)) c103 ((mor z kn).map stR ++ lr.map stR) = own 3 115 a103 (kn + (n7 - 1)) c103 ((mor z z.2.1.length ++ lr).map stR) from by rw [List.map_append, hkn]) ?_)))
     refine yy (rows := (mor z z.2.1.length ++ lr).map stR) qP ?_
     refine zY qP (show own 1 9 a83 (n6 + 1) c83 ((op.map (·.1)).map ys ++ [[S p.1.1]]) = own 1 9 a83 (n6 + 1) c83 ((((op ++ [p.1])).map (·.1)).map ys) from by rw [List.map_append, List.map_append]; rfl) ?_
     exact zL ⟨i + 1, _, _, n6 + 1, _, kn + (n7 - 1), _, _, _, _, withF out p.1, op ++ [p.1], mor z z.2.1.length ++ lr, ⟨hI.go hgo hz hwf2, hwn, by rw [List.length_append, hl6]; rfl, by rw [List.length_append, mor_len (Nat.le_refl _)]; omega⟩, rfl, rfl, rfl, rfl⟩ qI (.cons (t := 8) rfl <| .cons (t := 5) rfl <| .cons (t := 6) rfl <| .cons (t := 7) rfl <| za _) (.cons (t := 0) rfl <| za _) qD qD qF
 ·try simp only [dq] at h27
  obtain rfl := hI.end_ hnn (fun e => by have := hw.2 ⟨e.1, by rw [← hl7]; exact List.length_pos_iff.2 e.2⟩; rw [h27] at this; cases this)
  exact zM (zp (zp (zN (z4 (z6 (z8 (z5 rfl rfl (z9 rfl rfl (z7 (z4 (zm (zy rfl rfl ⟨_, _, _, out, rfl, hI.fin, hl5, rfl, rfl⟩ qD qF))))))))))))
end Cv
set_option maxRecDepth 10000
namespace Cv
open Go Go.Proofs
/-! ## the reference of objects and of whole paths -/
theorem ObM_s {os : List Ob} {l : List ID32} {i : Nat} {x z : ID32} (g : l[i]? = some x) : ObM os (l.take (i + 1)) z ↔ ObM os (l.take i) z ∨ ((lkR os x).2.2 = true ∧ (z = x ∨ Blw os (lkR os x).1 (-1) z)) := by
  unfold ObM
  rw [List.take_add_one, g]
  constructor
  · rintro ⟨y, hy, h⟩
    rcases List.mem_append.1 hy with e | e
    · exact .inl ⟨y, e, h⟩
    · obtain rfl : y = x := by simpa using e
      exact .inr h
  · rintro (⟨y, hy, h⟩ | h)
    · exact ⟨y, List.mem_append_left _ hy, h⟩
    · exact ⟨x, by simp, h⟩
structure RoI (os : List Ob) (l : List ID32) (i : Nat) (out : List ID32) : Prop where
  asc : out.Pairwise (fun x y => x.1 < y.1)
  mem : ∀ z, z ∈ out ↔ ObM os (l.take i) z
theorem RoI.start (os : List Ob) (l : List ID32) : RoI os l 0 [] := ⟨.nil, fun z => ⟨fun h => (by cases h), fun ⟨x, hx, _⟩ => (by cases hx)⟩⟩
theorem RoI.skip {os : List Ob} {l out : List ID32} {i : Nat} {x : ID32} (h : RoI os l i out) (g : l[i]? = some x) (k : (lkR os x).2.2 = false) : RoI os l (i + 1) out :=
  ⟨h.asc, fun z => by rw [ObM_s g, h.mem z, k]; exact ⟨.inl, fun q => q.elim id fun q => Bool.noConfusion q.1⟩⟩
def roP (out : List ID32) (x : ID32) (ys : List ID32) (j : Nat) : List ID32 := (ys.take j).foldl withF (withF out x)
theorem roP_s {out ys : List ID32} {x y : ID32} {j : Nat} (h : ys[j]? = some y) : roP out x ys (j + 1) = withF (roP out x ys j) y := by
  unfold roP; rw [List.take_add_one, h, List.foldl_append]; rfl
theorem RoI.part {os : List Ob} {l out ys : List ID32} {i j : Nat} {x : ID32} (h : RoI os l i out) : (roP out x ys j).Pairwise (fun x y => x.1 < y.1) ∧ ∀ z, z ∈ roP out x ys j ↔ z ∈ ys.take j ∨ z ∈ out ∨ z = x := by
  obtain ⟨w1, w2⟩ := with_mem (z := x) h.asc
  obtain ⟨g1, g2⟩ := sortF_go (ys.take j) _ w1
  exact ⟨g1, fun z => (g2 z).trans (or_congr Iff.rfl (w2 z))⟩
theorem RoI.len {os : List Ob} {l out : List ID32} {i : Nat} (h : RoI os l i out) : out.length ≤ os.length := by
  have := nd_len (m := os.map (·.2.1)) (asc_nd h.asc) fun z hz => ((h.mem z).1 hz).here
  rwa [List.length_map] at this
theorem RoI.plen {os : List Ob} {l out ys : List ID32} {i j : Nat} {x : ID32} (h : RoI os l i out) (k : (lkR os x).2.2 = true) (t : TrF os (lkR os x).1 ys) : (roP out x ys j).length ≤ os.length := by
  obtain ⟨p1, p2⟩ := h.part (x := x) (ys := ys) (j := j)
  have := nd_len (m := os.map (·.2.1)) (asc_nd p1) fun z hz => by
    rcases (p2 z).1 hz with e | e | e
    · obtain ⟨q, j, b, e, g⟩ := (t.mem z).1 (List.mem_of_mem_take e)
      exact go_some g
    · exact ((h.mem z).1 e).here
    · obtain ⟨o, ho, h2⟩ := lkR_mem k
      exact List.mem_map.2 ⟨o, ho, by rw [h2, e]⟩
  rwa [List.length_map] at this
theorem RoI.next {os : List Ob} {l out ys : List ID32} {i : Nat} {x : ID32} (h : RoI os l i out) (g : l[i]? = some x) (k : (lkR os x).2.2 = true) (t : TrF os (lkR os x).1 ys) : RoI os l (i + 1) (roP out x ys ys.length) := by
  obtain ⟨p1, p2⟩ := h.part (x := x) (ys := ys) (j := ys.length)
  rw [List.take_length] at p2
  refine ⟨p1, fun z => ?_⟩
  rw [p2 z, ObM_s g, h.mem z, t.mem z]
  constructor
  · rintro (q | q | q)
    · exact .inr ⟨k, .inr q⟩
    · exact .inl q
    · exact .inr ⟨k, .inl q⟩
  · rintro (q | ⟨-, q | q⟩)
    · exact .inr (.inl q)
    · exact .inr (.inr q)
    · exact .inl q
theorem RoI.fin {os : List Ob} {l out : List ID32} {i : Nat} (h : RoI os l i out) (hi : l.length ≤ i) : ObF os l out := by
  have := h.mem
  rw [List.take_of_length_le hi] at this
  exact ⟨h.asc, this⟩
/-! ### whole paths -/
def csF (os : List Ob) : Nat → Int → Pt → Nat
  | 0, _, _ => 1
  | f + 1, lv, p =>
    match goF os p.1 with
    | none => 1
    | some o => if lv = 0 ∨ o.1 ≠ 2 ∨ (nodR o.2.2).2.2 ≠ 0 ∨ (0 < lv ∧ (((nodR o.2.2).1 : Nat) : Int) ≠ lv) then 1 else 1 + ((nodR o.2.2).2.1.map (csF os f ((((nodR o.2.2).1 : Nat) : Int) - 1))).sum
theorem csF_eq (os : List Ob) : ∀ (f g : Nat) (lv : Int) (p : Pt), Enf f lv → Enf g lv → csF os f lv p = csF os g lv p
  | 0, g, lv, p, h, _ => by unfold Enf at h; omega
  | f + 1, 0, lv, p, _, h => by unfold Enf at h; omega
  | f + 1, g + 1, lv, p, h, k => by
    unfold Enf at h k
    rw [csF, csF]
    cases goF os p.1 with
    | none => rfl
    | some o =>
      by_cases c : lv = 0 ∨ o.1 ≠ 2 ∨ (nodR o.2.2).2.2 ≠ 0 ∨ (0 < lv ∧ (((nodR o.2.2).1 : Nat) : Int) ≠ lv)
      · simp only [if_pos c]
      · simp only [if_neg c]
        have c2 : (nodR o.2.2).2.2 = 0 := Decidable.not_not.1 fun q => c (.inr (.inr (.inl q)))
        have hk := chkN_0 (nodR_ok c2)
        have c0 : lv ≠ 0 := fun q => c (.inl q)
        have c4 : ¬ (0 < lv ∧ (((nodR o.2.2).1 : Nat) : Int) ≠ lv) := fun q => c (.inr (.inr (.inr q)))
        obtain ⟨L, hL⟩ : ∃ L : Nat, L = (nodR o.2.2).1 := ⟨_, rfl⟩
        rw [← hL] at hk c4 ⊢
        have e1 : Enf f ((L : Int) - 1) := by unfold Enf; omega
        have e2 : Enf g ((L : Int) - 1) := by unfold Enf; omega
        exact congrArg (fun l : List Nat => 1 + l.sum) (List.map_congr_left fun q _ => csF_eq os f g _ q e1 e2)
def cst (os : List Ob) (lv : Int) (p : Pt) : Nat := csF os 10 lv p
theorem cst_pos (os : List Ob) (lv : Int) (p : Pt) : 1 ≤ cst os lv p := by
  unfold cst
  rw [csF]
  cases goF os p.1 with
  | none => exact Nat.le_refl _
  | some o =>
    dsimp only
    split
    · exact Nat.le_refl _
    · exact Nat.le_add_right 1 _
theorem cst_n {os : List Ob} {lv : Int} {p : Pt} {o : Ob} {z : Nat × List Pt × Int} (hl : -1 ≤ lv ∧ lv ≤ 8) (h : goF os p.1 = some o) (h0 : lv ≠ 0) (h2 : o.1 = 2) (hz : z = nodR o.2.2) (he : z.2.2 = 0) (hs : ¬ (0 < lv ∧ ((z.1 : Nat) : Int) ≠ lv)) : cst os lv p = 1 + (z.2.1.map (cst os (((z.1 : Nat) : Int) - 1))).sum := by
  subst hz
  have hk := chkN_0 (nodR_ok he)
  have hh : ¬ (lv = 0 ∨ o.1 ≠ 2 ∨ (nodR o.2.2).2.2 ≠ 0 ∨ (0 < lv ∧ (((nodR o.2.2).1 : Nat) : Int) ≠ lv)) := fun q => by
    rcases q with q | q | q | q
    · exact h0 q
    · exact q h2
    · exact q he
    · exact hs q
  have e : csF os (9 + 1) lv p = if lv = 0 ∨ o.1 ≠ 2 ∨ (nodR o.2.2).2.2 ≠ 0 ∨ (0 < lv ∧ (((nodR o.2.2).1 : Nat) : Int) ≠ lv) then 1 else 1 + ((nodR o.2.2).2.1.map (csF os 9 ((((nodR o.2.2).1 : Nat) : Int) - 1))).sum := by rw [csF, h]
  show csF os (9 + 1) lv p = _
  rw [e, if_neg hh]
  refine congrArg (fun l : List Nat => 1 + l.sum) (List.map_congr_left fun q _ => csF_eq os 9 10 _ q ?_ ?_)
  · unfold Enf; omega
  · unfold Enf; omega
def rsL (os : List Ob) : List Stp → Int
  | [] => 0
  | s :: l => if wh os s.2 s.1 ≠ 0 then wh os s.2 s.1 else rsL os l
def csL (os : List Ob) (l : List Stp) : Nat := (l.map fun s => cst os s.2 s.1).sum
theorem rsL_app (os : List Ob) : ∀ a b : List Stp, rsL os (a ++ b) = if rsL os a ≠ 0 then rsL os a else rsL os b
  | [], b => by simp [rsL]
  | s :: a, b => by
    rw [List.cons_append, rsL, rsL, rsL_app os a b]
    by_cases h : wh os s.2 s.1 ≠ 0
    · rw [if_pos h, if_pos h, if_pos h]
    · rw [if_neg h, if_neg h]
theorem rsL_map (os : List Ob) (k : Int) : ∀ ps : List Pt, rsL os (ps.map fun q => (q, k)) = fstE (wh os k) ps
  | [] => rfl
  | p :: ps => by rw [List.map_cons, rsL, fstE, rsL_map os k ps]
theorem csL_map (os : List Ob) (k : Int) (ps : List Pt) : csL os (ps.map fun q => (q, k)) = (ps.map (cst os k)).sum := by
  unfold csL; rw [List.map_map]; rfl
theorem mor_all (z : Nat × List Pt × Int) : mor z z.2.1.length = z.2.1.map fun q => (q, ((z.1 : Nat) : Int) - 1) := by unfold mor; rw [List.take_length]
structure WhI (os : List Ob) (fin : Int) (lf : List Stp) (i : Nat) : Prop where
  eq : rsL os lf = fin
  bd : i + csL os lf ≤ 2000
  lv : ∀ s ∈ lf, -1 ≤ s.2 ∧ s.2 ≤ 8
theorem WhI.start {os : List Ob} {r : Pt} (h : cst os (-1) r ≤ 2000) : WhI os (wh os (-1) r) [(r, -1)] 0 := by
  refine ⟨?_, ?_, fun s hs => ?_⟩
  · show (if wh os (-1) r ≠ 0 then _ else (0 : Int)) = _
    split
    · rfl
    · rename_i c; exact (Decidable.not_not.1 c).symm
  · show 0 + (cst os (-1) r + 0) ≤ _; omega
  · have : s = (r, -1) := by simpa using hs
    rw [this]; show (-1 : Int) ≤ -1 ∧ (-1 : Int) ≤ 8; decide
theorem WhI.err {os : List Ob} {fin k : Int} {p : Pt} {lf : List Stp} {i : Nat} (h : WhI os fin ((p, k) :: lf) i) (e : wh os k p ≠ 0) : fin = wh os k p := by
  rw [← h.eq, rsL]; exact if_pos e
theorem csL_cons (os : List Ob) (p : Pt) (k : Int) (lf : List Stp) : csL os ((p, k) :: lf) = cst os k p + csL os lf := by unfold csL; rw [List.map_cons, List.sum_cons]
theorem csL_app (os : List Ob) (a b : List Stp) : csL os (a ++ b) = csL os a + csL os b := by unfold csL; rw [List.map_append, List.sum_append]
theorem WhI.leaf {os : List Ob} {fin k : Int} {p : Pt} {lf : List Stp} {i : Nat} (h : WhI os fin ((p, k) :: lf) i) (e : wh os k p = 0) : WhI os fin lf (i + 1) := by
  have h1 := h.eq
  have h2 := h.bd
  have h3 := cst_pos os k p
  rw [rsL, if_neg (fun q => q e)] at h1
  rw [csL_cons] at h2
  exact ⟨h1, by omega, fun s hs => h.lv s (List.mem_cons_of_mem _ hs)⟩
theorem WhI.node {os : List Ob} {fin k : Int} {p : Pt} {lf : List Stp} {i : Nat} {o : Ob} {z : Nat × List Pt × Int} (h : WhI os fin ((p, k) :: lf) i) (g : goF os p.1 = some o) (h0 : k ≠ 0) (h2 : o.1 = 2) (hz : z = nodR o.2.2) (he : z.2.2 = 0) (hs : ¬ ((0 < k ∧ ((z.1 : Nat) : Int) ≠ k) ∨ sizeP z.2.1 ≠ p.2)) : WhI os fin (mor z z.2.1.length ++ lf) (i + 1) := by
  have hl : -1 ≤ k ∧ k ≤ 8 := h.lv (p, k) (by simp)
  have hw := wh_n hl g h0 h2 hz he hs
  have hc := cst_n hl g h0 h2 hz he fun q => hs (.inl q)
  have hk := chkN_0 (nodR_ok (s := o.2.2) (by rw [← hz]; exact he))
  rw [← hz] at hk
  have h1 := h.eq
  have h3 := h.bd
  rw [csL_cons] at h3
  refine ⟨?_, ?_, fun s hs => ?_⟩
  · rw [rsL_app, mor_all, rsL_map]
    rw [rsL] at h1
    rw [← hw]; exact h1
  · rw [csL_app, mor_all, csL_map]; omega
  · rcases List.mem_append.1 hs with e | e
    · rw [mor_all] at e
      obtain ⟨q, -, rfl⟩ := List.mem_map.1 e
      show -1 ≤ ((z.1 : Nat) : Int) - 1 ∧ ((z.1 : Nat) : Int) - 1 ≤ 8; omega
    · exact h.lv s (List.mem_cons_of_mem _ e)
theorem csL_len (os : List Ob) : ∀ lf : List Stp, lf.length ≤ csL os lf
  | [] => Nat.zero_le _
  | (p, k) :: lf => by have := csL_len os lf; have := cst_pos os k p; rw [csL_cons, List.length_cons]; omega
theorem WhI.end_ {os : List Ob} {fin : Int} {lf : List Stp} {i : Nat} (h : WhI os fin lf i) (e : ¬ (i < 2000 ∧ lf ≠ [])) : fin = 0 := by
  have h1 := csL_len os lf
  have h2 := h.bd
  have : lf = [] := Classical.byContradiction fun c => e ⟨by have := List.length_pos_iff.2 c; omega, c⟩
  subst this
  exact h.eq.symm
theorem WhI.len {os : List Ob} {fin : Int} {lf : List Stp} {i : Nat} (h : WhI os fin lf i) : lf.length ≤ 2000 ∧ i ≤ 2000 := by
  have h1 := csL_len os lf
  have h2 := h.bd
  omega
theorem at_pR (p : Pt) (a : Option Addr) (n c : Nat) : AtN 2 (inR p a n c) 0 (ptR p) := by
  rw [show inR p a n c = ptR p ++ [.slice a n c] from rfl]; exact AtN.left rfl

theorem robjs_spec {a b : Option Addr} {n c m d : Nat} {os : List Ob} {l : List ID32} (hn : n ≤ 3000) (hs : Shf os) (hnn : nnd os ≤ 249) (hm : m ≤ 100000) : Spec Tryz.prog 20 [.slice a n c, .slice b m d] [rsl 3 a n c (os.map obR), rsl 1 b m d (((l).map (·.1)).map ys)] [] (fun v D' M' => ∃ (a' : Option Addr) (n' c' : Nat) (us : List ID32), v = .slice a' n' c' ∧ (ObF os l us) ∧ (us.length = n') ∧ D' = [rsl 1 a' n' c' (((us).map (·.1)).map ys)] ∧ M' = []) := by
 refine zE (n := 44) Tryz.func20 ?_
 intro σ D M
 refine yx (a := a) (len := n) (cap := c) (rows := os.map obR) qM (fun hol hoc => ?_)
 rw [List.length_map] at hol
 refine yx (a := b) (len := m) (cap := d) (rows := (l.map (·.1)).map ys) qM (fun hll hlc => ?_)
 rw [List.length_map, List.length_map] at hll
 refine z6 (z8 (z9 rfl rfl (z7 (z4 (z6 (z8 (y7 rfl bs31 jD (zG (out := []) rfl) (fun b12 => ?_))))))))
 refine yG (len := 0) qP (rows := (([] : List ID32).map (·.1)).map ys) (sz := 1) (by rfl) rfl (by simp) ?_
 refine yM (rows := (([] : List ID32).map (·.1)).map ys) qP ?_
 refine z9 rfl rfl (z7 (z4 (z6 (z6 (z8 (z5 rfl rfl (y1 rfl yB rfl (z5 rfl rfl (z7 (z4 (zq (zV (fun K' D' M' μ => ∃ (i n5 c5 : Nat) (a5 : Option Addr) (out : List ID32), (i ≤ m ∧ RoI os l i out ∧ out.length = n5) ∧ K' = [(15, .int .i64 (i : Int)), (5, .slice a5 n5 c5)] ∧ D' = [rsl 1 a5 n5 c5 (((out).map (·.1)).map ys)] ∧ M' = [] ∧ μ = m - i) (.cons (t := 0) rfl <| .cons (t := 13) rfl <| .cons (t := 14) rfl <| za _) (⟨0, 0, 0, _, [], ⟨Nat.zero_le _, .start os l, rfl⟩, rfl, rfl, rfl, rfl⟩) (.cons (t := 15) rfl <| .cons (t := 5) rfl <| za _) qD qS ?_))))))))))))
 rintro K1 D1 M1 m1 ⟨i, n5, c5, a5, out, ⟨hi, hI, hl5⟩, rfl, rfl, rfl, rfl⟩
 refine zz qA qA qA ?_
 have hol5 := hI.len
 refine z6 (z8 (zQ rfl rfl rfl (z7 (z4 (z6 (zo rfl (fun h16 => ?_) (fun h16 => ?_)))))))
 ·try simp only [dq] at h16
  refine zj (z4 (z6 (zq (z6 ?_))))
  have hgx : (l)[i]? = some (gd (l) i) := zJ jO
  obtain ⟨x, hx_⟩ : ∃ z, z = gd (l) i := ⟨_, rfl⟩
  rw [← hx_] at hgx
  clear hx_
  have hmx : ((l).map (·.1))[i]? = some x.1 := zR hgx
  have hrx : (((l).map (·.1)).map ys)[i]? = some (ys x.1) := zR hmx
  refine z8 (yq (i := i) rfl yB sz9 rfl rfl qM jR qG (fun b17 o17 => ?_))
  refine zh rfl sc9 rfl qC ?_
  refine z9 rfl rfl (z7 (z4 (z6 (z8 (z5 rfl rfl (z5 rfl rfl (zw rfl (ev2 rfl rfl) qD qS (rlook_spec (os := os) (x := x) jO hs) ?_)))))))
  rintro _ _ _ ⟨ka, kn, kc, cs, rfl, hcs, hco, hkn, hce, rfl, rfl⟩
  refine zu qA qA ?_
  have hk8 := lkR_len os x
  have hp32 := (lkR os x).1.1.2
  refine z5 rfl rfl (zO rfl rfl rfl (zO rfl rfl rfl (zS rfl ze107 (fun b8 => ?_))))
  refine zC ag107 rfl rfl qL qO qU qW ?_
  refine z9 rfl rfl (z7 (y9 (A := cl b8 107 cs) qP ?_))
  refine z4 (z6 (z8 (z5 rfl rfl (z7 (z4 (zo rfl (fun h25 => ?_) (fun h25 => ?_)))))))
  ·try simp only [dq] at h25
   obtain rfl := hce h25
   refine z6 (z8 (z5 rfl rfl (z5 rfl rfl (zw rfl (ev2 rfl rfl) qD qS (with_spec (l := out) (z := x) jO) ?_))))
   rintro _ _ _ ⟨wa, wn, wc, rfl, hwn, rfl, rfl⟩
   refine zu qA qA ?_
   refine yM (rows := ((withF out x).map (·.1)).map ys) qP ?_
   refine z9 rfl rfl (z7 (z4 (z6 (z8 (z5 rfl rfl (zi rfl fo107_0 rfl ?_))))))
   refine zr rfl ag105 rfl (CellsN.ofF qM (at_pR _ _ _ _)) ?_
   refine zw rfl (ev2 rfl rfl) qD qS (rtree_spec (os := os) (r := (lkR os x).1) jO hs hnn) ?_
   rintro _ _ _ ⟨ta, tn, tc, tr, rfl, htf, htn, rfl, rfl⟩
   refine zu qA qA ?_
   have htl := htf.len
   refine y1 rfl yB rfl (z5 rfl rfl (z7 (z4 (zq (T.derive (φ := rsl 1 wa wn wc (((withF out x).map (·.1)).map ys)) (ψ := rsl 1 wa wn wc (((roP out x tr 0).map (·.1)).map ys)) qM (fun z H => H) ?_)))))
   refine zV (fun K' D' M' μ => ∃ (j n6 c6 : Nat) (a6 : Option Addr), (j ≤ tn ∧ (roP out x tr j).length = n6) ∧ K' = [(34, .int .i64 (j : Int)), (5, .slice a6 n6 c6)] ∧ D' = [rsl 1 a6 n6 c6 (((roP out x tr j).map (·.1)).map ys)] ∧ M' = [] ∧ μ = tn - j) (.cons (t := 0) rfl <| .cons (t := 13) rfl <| .cons (t := 14) rfl <| .cons (t := 15) rfl <| .cons (t := 32) rfl <| .cons (t := 33) rfl <| za _) (⟨0, wn, wc, wa, ⟨Nat.zero_le _, hwn⟩, rfl, rfl, rfl, rfl⟩) (.cons (t := 34) rfl <| .cons (t := 5) rfl <| za _) qD qS ?_
   rintro K1 D1 M1 m1 ⟨j, n6, c6, a6, ⟨hj, hl6⟩, rfl, rfl, rfl, rfl⟩
   refine zz qA qA qA ?_
   have hpl := hI.plen (j := j) h25 htf
   refine z6 (z8 (zQ rfl rfl rfl (z7 (z4 (z6 (zo rfl (fun h35 => ?_) (fun h35 => ?_)))))))
   ·try simp only [dq] at h35
    refine zj (z4 (z6 (zq (z6 ?_))))
    have hgy : (tr)[j]? = some (gd (tr) j) := zJ jO
    obtain ⟨y, hy_⟩ : ∃ z, z = gd (tr) j := ⟨_, rfl⟩
    rw [← hy_] at hgy
    clear hy_
    have hmy : ((tr).map (·.1))[j]? = some y.1 := zR hgy
    have hry : (((tr).map (·.1)).map ys)[j]? = some (ys y.1) := zR hmy
    refine z8 (yq (i := j) rfl yB sz9 rfl rfl qM jR qG (fun b36 o36 => ?_))
    refine zh rfl sc9 rfl qC ?_
    refine z9 rfl rfl (z7 (z4 (z8 (z5 rfl rfl (z5 rfl rfl (zw rfl (ev2 rfl rfl) qD qS (with_spec (l := roP out x tr j) (z := y) jO) ?_))))))
    rintro _ _ _ ⟨va, vn, vc, rfl, hvn, rfl, rfl⟩
    refine zu qA qA ?_
    refine yM (rows := ((withF (roP out x tr j) y).map (·.1)).map ys) qP ?_
    refine z9 rfl rfl (z7 (zI (z4 (z8 (zA rfl rfl rfl jO ?_)))))
    refine z5 rfl rfl (z7 (z4 (T.derive (φ := rsl 1 va vn vc (((withF (roP out x tr j) y).map (·.1)).map ys)) (ψ := rsl 1 va vn vc (((roP out x tr (j + 1)).map (·.1)).map ys)) qM (fun z H => by rw [roP_s hgy]; exact H) ?_)))
    exact zL ⟨j + 1, _, _, _, ⟨by omega, by rw [roP_s hgy]; exact hvn⟩, rfl, rfl, rfl, rfl⟩ qI (.cons (t := 34) rfl <| .cons (t := 5) rfl <| za _) (.cons (t := 0) rfl <| .cons (t := 13) rfl <| .cons (t := 14) rfl <| .cons (t := 15) rfl <| .cons (t := 32) rfl <| .cons (t := 33) rfl <| za _) qD qD qF
   ·try simp only [dq] at h35
    obtain rfl : tn = j := by omega
    refine zM (zp (zp (zN (zI (z4 (z8 (zA rfl rfl rfl jO ?_)))))))
    exact z5 rfl rfl (z7 (z4 (zL ⟨i + 1, _, _, _, roP out x tr tn, ⟨by omega, by rw [← htn]; exact hI.next hgx h25 htf, hl6⟩, rfl, rfl, rfl, rfl⟩ qI (.cons (t := 15) rfl <| .cons (t := 5) rfl <| za _) (.cons (t := 0) rfl <| .cons (t := 13) rfl <| .cons (t := 14) rfl <| za _) qD qD qF)))
  ·try simp only [dq] at h25
   refine zj (zI (z4 (z8 (zA rfl rfl rfl jO ?_))))
   exact z5 rfl rfl (z7 (z4 (zL ⟨i + 1, _, _, _, out, ⟨by omega, hI.skip hgx h25, hl5⟩, rfl, rfl, rfl, rfl⟩ qI (.cons (t := 15) rfl <| .cons (t := 5) rfl <| za _) (.cons (t := 0) rfl <| .cons (t := 13) rfl <| .cons (t := 14) rfl <| za _) qD qD qF)))
 ·try simp only [dq] at h16
  obtain rfl : m = i := by omega
  exact zM (zp (zp (zN (z4 (z6 (z8 (z5 rfl rfl (z9 rfl rfl (z7 (z4 (zm (zy rfl rfl ⟨_, _, _, out, rfl, hI.fin jO, hl5, rfl, rfl⟩ qD qF))))))))))))
end Cv
set_option maxRecDepth 10000
namespace Cv
open Go Go.Proofs

theorem rwhl_spec {a : Option Addr} {n c : Nat} {os : List Ob} {x : ID32} (hn : n ≤ 3000) (hs : Shf os) (hct : cst os (-1) (lkR os x).1 ≤ 2000) : Spec Tryz.prog 22 [.slice a n c, S x.1] [rsl 3 a n c (os.map obR)] [] (fun v D' M' => v = .int .i64 (whE os x) ∧ D' = [] ∧ M' = []) := by
 refine zE (n := 126) Tryz.func22 ?_
 intro σ D M
 refine yx (a := a) (len := n) (cap := c) (rows := os.map obR) qM (fun hol hoc => ?_)
 rw [List.length_map] at hol
 have hx32 := x.2
 refine z6 (z8 (z9 rfl rfl (z7 (z4 (z6 (z8 (z5 rfl rfl (z5 rfl rfl (zw rfl (ev2 rfl rfl) qD qS (rlook_spec (os := os) (x := x) jO hs) ?_)))))))))
 rintro _ _ _ ⟨ka, kn, kc, cs, rfl, hcs, hco, hkn, hce, rfl, rfl⟩
 refine zu qA qA ?_
 obtain ⟨R, hR⟩ : ∃ z, z = lkR os x := ⟨_, rfl⟩
 rw [← hR] at hkn hce hct ⊢
 have hp32 := R.1.1.2
 refine z5 rfl rfl (zO rfl rfl rfl (zO rfl rfl rfl (zS rfl ze107 (fun b5 => ?_))))
 refine zC ag107 rfl rfl qL qO qU qW ?_
 refine z9 rfl rfl (z7 (y9 (A := cl b5 107 cs) qP ?_))
 refine z4 (z6 (z6 (z8 (z5 rfl rfl (yW rfl rfl (z7 (z4 (zo rfl (fun h23 => ?_) (fun h23 => ?_)))))))))
 ·try simp only [dq] at h23
  exact z6 (z8 (z9 rfl rfl (z7 (z4 (zm (zt (zy rfl rfl ⟨by unfold whE; rw [← hR, if_neg (by simpa using h23)], rfl, rfl⟩ qD qF)))))))
 ·try simp only [dq] at h23
  have hok : R.2.2 = true := by simpa using h23
  obtain rfl := hce hok
  refine zj (z4 (z6 (z8 (zi rfl fo107_0 rfl ?_))))
  refine zr rfl ag105 rfl (CellsN.ofF qM (at_pR _ _ _ _)) ?_
  refine yf rfl bu115 (yE rfl rfl (by first | with_reducible assumption | (simp; done) | (simp only [List.length_map]; with_reducible assumption) | (simp [*]; done) | rfl) (Nat.le_of_ble_eq_true rfl) qR <| zx rfl rfl rfl <| zG (out := []) rfl) ?_
  refine y7 rfl bs116 jD (yE rfl rfl (by first | with_reducible assumption | (simp; done) | (simp only [List.length_map]; with_reducible assumption) | (simp [*]; done) | rfl) (Nat.le_of_ble_eq_true rfl) qR <| zG (out := []) rfl) (fun b27 => ?_)
  refine yG (len := 1) qP (rows := ([(R.1, -1)] : List Stp).map stR) (sz := 3) (by rfl) rfl (by simp) ?_
  refine yM (rows := ([(R.1, -1)] : List Stp).map stR) qP ?_
  refine z9 rfl rfl (z7 (z4 (z6 (z6 (z8 (z9 rfl rfl (z7 (z4 (zq (zV (fun K' D' M' μ => ∃ (i n7 c7 : Nat) (a7 : Option Addr) (lf : List Stp), (WhI os (wh os (-1) R.1) lf i ∧ lf.length = n7) ∧ K' = [(8, .int .i64 (i : Int)), (7, .slice a7 n7 c7)] ∧ D' = [rsl 3 a7 n7 c7 ((lf).map stR)] ∧ M' = [] ∧ μ = 2000 - i) (.cons (t := 0) rfl <| za _) (⟨0, 1, 1, _, [(R.1, -1)], ⟨.start hct, rfl⟩, rfl, rfl, rfl, rfl⟩) (.cons (t := 8) rfl <| .cons (t := 7) rfl <| za _) qD qS ?_))))))))))
  rintro K1 D1 M1 m1 ⟨i, n7, c7, a7, lf, ⟨hI, hl7⟩, rfl, rfl, rfl, rfl⟩
  refine zz qA qA qA ?_
  obtain ⟨hb7, hbi⟩ := hI.len
  refine yx (a := a7) (len := n7) (cap := c7) (rows := lf.map stR) qM (fun hxl hxc => ?_)
  clear hxl
  refine z6 (z6 (yg (fun K' D' M' => ∃ (w : Bool), (w = true ↔ (i < 2000 ∧ 0 < n7)) ∧ K' = [(34, .bool w)] ∧ D' = [] ∧ M' = []) (M0 := []) (.cons (t := 0) rfl <| .cons (t := 7) rfl <| .cons (t := 8) rfl <| za _) qS ?_ ?_))
  ·skip
   refine z8 (z5 rfl rfl (zQ rfl rfl rfl (z5 rfl rfl (yw (t := 30) rfl (fun h1 => ?_) (fun h1 => ?_)))))
   ·try simp only [dq] at h1
    exact ze (dj := 30) rfl rfl rfl (z5 rfl rfl (ze (dj := 30) rfl rfl rfl (y1 rfl xv rfl (ze (dj := 30) rfl rfl rfl (ym rfl rfl rfl (y2 rfl rfl rfl (z7 (z4 (zH ⟨_, (by simp_all <;> omega), rfl, rfl, rfl⟩ (.cons (t := 34) rfl <| za _) (.cons (t := 0) rfl <| .cons (t := 7) rfl <| .cons (t := 8) rfl <| za _) qD qD qF)))))))))
   ·try simp only [dq] at h1
    exact zf (dj := 30) (c := false) rfl rfl rfl rfl rfl jD (zf (dj := 30) (c := false) rfl rfl rfl rfl rfl jD (zf (dj := 30) (c := false) rfl rfl rfl rfl rfl jD (y3 rfl rfl rfl (z7 (z4 (zH ⟨_, (by simp_all <;> omega), rfl, rfl, rfl⟩ (.cons (t := 34) rfl <| za _) (.cons (t := 0) rfl <| .cons (t := 7) rfl <| .cons (t := 8) rfl <| za _) qD qD qF))))))
  rintro _ _ _ ⟨w, hw, rfl, rfl, rfl⟩
  refine zz qA qA qA ?_
  refine z4 (zo rfl (fun h34 => ?_) (fun h34 => ?_))
  ·try simp only [dq] at h34
   have hwt := hw.1 h34
   obtain ⟨s, lr, rfl⟩ : ∃ s l, lf = s :: l := List.exists_cons_of_length_pos jO
   obtain ⟨p, k⟩ := s
   have hg0 : (((p, k) :: lr).map stR)[0]? = some (stR (p, k)) := rfl
   have hp33 := p.1.2
   have hlv : -1 ≤ k ∧ k ≤ 8 := hI.lv (p, k) (by simp)
   have hl7b := hl7
   rw [List.length_cons] at hl7b
   refine zj (z4 (z6 (zq (z6 (z8 (z5 rfl rfl (yq (i := 0) rfl xv sz115 rfl rfl qM jR qG (fun b38 o38 => ?_))))))))
   refine zr rfl ag115 rfl (yX qM (stR_len _)) ?_
   refine zS rfl ze115 (fun b9 => ?_)
   refine zC ag115 rfl rfl qL qO qU qW ?_
   refine z7 (y9 (A := cl b9 115 (stR (p, k))) qP ?_)
   refine z4 (z6 (z8 (z5 rfl rfl (L.sliceR rfl xv sz115 rfl (Bd.at rfl rfl) Bd.no qM qI qI qI (fun a41 => ?_)))))
   refine L.derive (ψ := rsl 3 a41 (n7 - 1) (c7 - 1) (lr.map stR)) (List.Mem.head _) (fun z H => by rw [tl_row hl7] at H; exact H) ?_
   refine z9 rfl rfl (z7 (z4 (z6 (z8 (z5 rfl rfl (zi rfl fo115_0 rfl ?_))))))
   refine zi rfl fo105_0 rfl ?_
   refine zh rfl sc9 rfl qC ?_
   refine zw rfl (ev2 rfl rfl) qD qS (rget_spec (os := os) (x := p.1) jO) ?_
   rintro _ _ _ ⟨kk, rfl, hkx, rfl, rfl⟩
   refine zu qA qA ?_
   have hklo := hkx.lo
   have hkhi := hkx.hi
   refine z9 rfl rfl (z7 (z4 (z6 (z6 (z8 (z5 rfl rfl (zQ rfl rfl rfl (z7 (z4 (zo rfl (fun h48 => ?_) (fun h48 => ?_)))))))))))
   ·try simp only [dq] at h48
    have hgo := hkx.no h48
    exact z6 (z8 (z9 rfl rfl (z7 (z4 (zm (zt (zX (zt (zt (zX (zt (zy rfl rfl ⟨by unfold whE; rw [← hR, if_pos hok, hI.err (by rw [wh_none hgo]; first | decide | assumption), wh_none hgo], rfl, rfl⟩ qD qF))))))))))))
   ·try simp only [dq] at h48
    obtain ⟨ix, o, rfl, hgx, hgo⟩ := hkx.yes h48
    have hgr : (os.map obR)[ix]? = some (obR o) := zR hgx
    have hix : ix < n := by rw [← hol]; exact (List.getElem?_eq_some_iff.1 hgx).1
    have hos := hs o (List.mem_of_getElem? hgx)
    have ho32 := o.2.1.2
    refine zj (z4 (z6 (z6 (z8 (zi rfl fo115_1 rfl ?_)))))
    refine zh rfl sc3 rfl qC ?_
    refine yz rfl rfl rfl (z7 (z4 (zo rfl (fun h51 => ?_) (fun h51 => ?_))))
    ·try simp only [dq] at h51
     subst h51
     refine z6 (z6 (yg (fun K' D' M' => ∃ (w3 : Bool), (w3 = true ↔ (o.1 ≠ 1 ∨ ((o.2.2.length : Nat) : Int) ≠ p.2)) ∧ K' = [(69, .bool w3)] ∧ D' = [] ∧ M' = []) (M0 := []) (.cons (t := 0) rfl <| .cons (t := 7) rfl <| .cons (t := 8) rfl <| za _) qS ?_ ?_))
     ·skip
      refine T.rslAddr (a := a) (len := n) (cap := c) (rows := os.map obR) qM (fun e => by have := congrArg List.length e; rw [List.length_map] at this; simp only [List.length_nil] at this; omega) (fun bo oo ha => ?_)
      subst ha
      refine yv qk qk (z5 rfl rfl (z5 rfl rfl (L.idxR (i := ix) rfl xt sz118 rfl rfl qM jR qI qG ?_)))
      refine zi rfl fo118_0 rfl ?_
      refine zh rfl sc3 rfl qC ?_
      refine yh rfl rfl rfl (z5 rfl rfl (yw (t := 58) rfl (fun h2 => ?_) (fun h2 => ?_)))
      ·try simp only [dq] at h2
       exact zf (dj := 58) (c := true) rfl rfl rfl rfl rfl jD (zf (dj := 58) (c := true) rfl rfl rfl rfl rfl jD (zf (dj := 58) (c := true) rfl rfl rfl rfl rfl jD (zf (dj := 58) (c := true) rfl rfl rfl rfl rfl jD (zf (dj := 58) (c := true) rfl rfl rfl rfl rfl jD (zf (dj := 58) (c := true) rfl rfl rfl rfl rfl jD (zf (dj := 58) (c := true) rfl rfl rfl rfl rfl jD (zf (dj := 58) (c := true) rfl rfl rfl rfl rfl jD (zf (dj := 58) (c := true) rfl rfl rfl rfl rfl jD (zf (dj := 58) (c := true) rfl rfl rfl rfl rfl jD (y2 rfl rfl rfl (yn (z4 (zH ⟨_, (by simp_all), rfl, rfl, rfl⟩ (.cons (t := 69) rfl <| za _) (.cons (t := 0) rfl <| .cons (t := 7) rfl <| .cons (t := 8) rfl <| za _) qD qD qF)))))))))))))
      ·try simp only [dq] at h2
       refine ze (dj := 58) rfl rfl rfl (z5 rfl rfl (ze (dj := 58) rfl rfl rfl (z5 rfl rfl (ze (dj := 58) rfl rfl rfl (L.idxR (i := ix) rfl xt sz118 rfl rfl qM jR qI qG ?_)))))
       refine ze (dj := 58) rfl rfl rfl (zi rfl fo118_2 rfl ?_)
       refine ze (dj := 58) rfl rfl rfl (zh rfl sc9 rfl qC ?_)
       refine ze (dj := 58) rfl rfl rfl (x7 rfl yp rfl (ze (dj := 58) rfl rfl rfl (zi rfl fo115_0 rfl ?_)))
       refine ze (dj := 58) rfl rfl rfl (zi rfl fo105_1 rfl ?_)
       refine ze (dj := 58) rfl rfl rfl (zh rfl sc3 rfl qC ?_)
       exact ze (dj := 58) rfl rfl rfl (yh rfl rfl rfl (y3 rfl rfl rfl (yn (z4 (zH ⟨_, (by simp_all), rfl, rfl, rfl⟩ (.cons (t := 69) rfl <| za _) (.cons (t := 0) rfl <| .cons (t := 7) rfl <| .cons (t := 8) rfl <| za _) qD qD qF)))))
     rintro _ _ _ ⟨w3, hw3, rfl, rfl, rfl⟩
     refine zz qA qA qA ?_
     refine z4 (zo rfl (fun h69 => ?_) (fun h69 => ?_))
     ·try simp only [dq] at h69
      exact z6 (z8 (z9 rfl rfl (z7 (z4 (zm (zt (zt (zX (zt (zt (zX (zt (zy rfl rfl ⟨by unfold whE; rw [← hR, if_pos hok, hI.err (by rw [wh_0 hgo, if_pos (hw3.1 h69)]; first | decide | assumption), wh_0 hgo, if_pos (hw3.1 h69)], rfl, rfl⟩ qD qF)))))))))))))
     ·try simp only [dq] at h69
      refine zj (z4 (zM (zp (zN (z4 (z8 (z5 rfl rfl (zA rfl rfl rfl jO ?_))))))))
      exact z9 rfl rfl (z7 (z4 (zL ⟨i + 1, n7 - 1, c7 - 1, a41, lr, ⟨hI.leaf (by rw [wh_0 hgo, if_neg (fun e => by have := hw3.2 e; rw [h69] at this; cases this)]), by omega⟩, rfl, rfl, rfl, rfl⟩ qI (.cons (t := 8) rfl <| .cons (t := 7) rfl <| za _) (.cons (t := 0) rfl <| za _) qD qD qF)))
    ·try simp only [dq] at h51
     refine zj (z4 (z6 (z6 (z8 (z5 rfl rfl (z5 rfl rfl (yq (i := ix) rfl xt sz118 rfl rfl qM jR qG (fun b72 o72 => ?_))))))))
     refine zi rfl fo118_0 rfl ?_
     refine zh rfl sc3 rfl qC ?_
     refine yh rfl rfl rfl (z7 (z4 (zo rfl (fun h75 => ?_) (fun h75 => ?_))))
     ·try simp only [dq] at h75
      exact z6 (z8 (z9 rfl rfl (z7 (z4 (zm (zt (zX (zt (zt (zX (zt (zy rfl rfl ⟨by unfold whE; rw [← hR, if_pos hok, hI.err (by rw [wh_k hgo h51 h75]; first | decide | assumption), wh_k hgo h51 h75], rfl, rfl⟩ qD qF))))))))))))
     ·try simp only [dq] at h75
      have hk2 : o.1 = 2 := Decidable.not_not.1 h75
      refine zj (z4 (z6 (z8 (z5 rfl rfl (z5 rfl rfl (yq (i := ix) rfl xt sz118 rfl rfl qM jR qG (fun b79 o79 => ?_)))))))
      refine zi rfl fo118_2 rfl ?_
      refine zh rfl sc9 rfl qC ?_
      refine zw rfl (ev1 rfl) qD qS (rparse9_spec (s := o.2.2) jO) ?_
      rintro _ _ _ ⟨na, nn, nc, rfl, hnn, rfl, rfl⟩
      refine zu qA qA ?_
      have hz8 := nodR_len o.2.2
      have hzi := nodR_in o.2.2
      have hzo := @nodR_ok o.2.2
      obtain ⟨z, hz⟩ : ∃ z, z = nodR o.2.2 := ⟨_, rfl⟩
      rw [← hz] at hnn hz8 hzi hzo ⊢
      refine z5 rfl rfl (zO rfl rfl rfl (zO rfl rfl rfl (zS rfl ze121 (fun b11 => ?_))))
      refine zC ag121 rfl rfl qL qO qU qW ?_
      refine z9 rfl rfl (z7 (y9 (A := cl b11 121 [.int .i64 (z.1 : Int), .slice na nn nc]) qP ?_))
      refine z4 (z6 (z6 (z8 (z5 rfl rfl (yh rfl rfl rfl (z7 (z4 (zo rfl (fun h86 => ?_) (fun h86 => ?_)))))))))
      ·try simp only [dq] at h86
       exact z6 (z8 (z5 rfl rfl (z9 rfl rfl (z7 (z4 (zm (zt (zX (zt (zt (zX (zt (zy rfl rfl ⟨by unfold whE; rw [← hR, if_pos hok, hI.err (by rw [wh_e hgo h51 hk2 hz h86]; first | decide | assumption), wh_e hgo h51 hk2 hz h86], rfl, rfl⟩ qD qF)))))))))))))
      ·try simp only [dq] at h86
       have hze : z.2.2 = 0 := Decidable.not_not.1 h86
       have hz1 := chkN_0 (hzo hze)
       refine zj (z4 (z6 (z6 (yg (fun K' D' M' => ∃ (w4 : Bool), (w4 = true ↔ ((0 < k ∧ ((z.1 : Nat) : Int) ≠ k) ∨ sizeP z.2.1 ≠ p.2)) ∧ K' = [(105, .bool w4)] ∧ D' = [] ∧ M' = []) (M0 := []) (.cons (t := 0) rfl <| .cons (t := 7) rfl <| .cons (t := 8) rfl <| .cons (t := 11) rfl <| za _) qS ?_ ?_))))
       ·skip
        rcases (show ¬ 0 < k ∨ (0 < k ∧ ((z.1 : Nat) : Int) ≠ k) ∨ (0 < k ∧ ((z.1 : Nat) : Int) = k) by omega) with hk0 | ⟨hk0, hk1⟩ | ⟨hk0, hk1⟩
        ·skip
         refine yv qk qk (zi rfl fo115_1 rfl ?_)
         refine zh rfl sc3 rfl qC ?_
         refine ym rfl rfl rfl (z5 rfl rfl (zv (t := 91) rfl (show _ = Value.bool false from congrArg Value.bool (decide_eq_false hk0)) ?_))
         refine zf (dj := 91) (c := false) rfl rfl rfl rfl rfl jD (zf (dj := 91) (c := false) rfl rfl rfl rfl rfl jD (zf (dj := 91) (c := false) rfl rfl rfl rfl rfl jD (zf (dj := 91) (c := false) rfl rfl rfl rfl rfl jD (zf (dj := 91) (c := false) rfl rfl rfl rfl rfl jD (y3 rfl rfl rfl (z5 rfl rfl (ze (dj := 98) rfl rfl rfl (zr rfl ag121 rfl qN ?_))))))))
         refine ze (dj := 98) rfl rfl rfl (zW rfl (ev1 rfl) qD qS (rsize_spec (k := z.1) (ps := z.2.1) jO (fun p hp => ⟨(hzi.2 p hp).1, Int.le_trans (hzi.2 p hp).2 jD⟩)) jF ?_)
         refine ze (dj := 98) rfl rfl rfl (zi rfl fo115_0 rfl ?_)
         refine ze (dj := 98) rfl rfl rfl (zi rfl fo105_1 rfl ?_)
         refine ze (dj := 98) rfl rfl rfl (zh rfl sc3 rfl qC ?_)
         exact ze (dj := 98) rfl rfl rfl (yh rfl rfl rfl (y3 rfl rfl rfl (yn (z4 (zH ⟨_, (by simp; omega), rfl, rfl, rfl⟩ (.cons (t := 105) rfl <| za _) (.cons (t := 0) rfl <| .cons (t := 7) rfl <| .cons (t := 8) rfl <| .cons (t := 11) rfl <| za _) qD qD qF)))))
        ·skip
         refine yv qk qk (zi rfl fo115_1 rfl ?_)
         refine zh rfl sc3 rfl qC ?_
         refine ym rfl rfl rfl (z5 rfl rfl (zv (t := 91) rfl (show _ = Value.bool true from congrArg Value.bool (decide_eq_true hk0)) ?_))
         refine ze (dj := 91) rfl rfl rfl (zi rfl fo121_0 rfl ?_)
         refine ze (dj := 91) rfl rfl rfl (zh rfl sc3 rfl qC ?_)
         refine ze (dj := 91) rfl rfl rfl (zi rfl fo115_1 rfl ?_)
         refine ze (dj := 91) rfl rfl rfl (zh rfl sc3 rfl qC ?_)
         refine ze (dj := 91) rfl rfl rfl (yh rfl rfl rfl (y2 rfl rfl rfl (z5 rfl rfl (zv (t := 98) rfl (show _ = Value.bool true from congrArg Value.bool (decide_eq_true hk1)) ?_))))
         exact zf (dj := 98) (c := true) rfl rfl rfl rfl rfl jD (zf (dj := 98) (c := true) rfl rfl rfl rfl rfl jD (zf (dj := 98) (c := true) rfl rfl rfl rfl rfl jD (zf (dj := 98) (c := true) rfl rfl rfl rfl rfl jD (zf (dj := 98) (c := true) rfl rfl rfl rfl rfl jD (zf (dj := 98) (c := true) rfl rfl rfl rfl rfl jD (y2 rfl rfl rfl (yn (z4 (zH ⟨_, (by simp; omega), rfl, rfl, rfl⟩ (.cons (t := 105) rfl <| za _) (.cons (t := 0) rfl <| .cons (t := 7) rfl <| .cons (t := 8) rfl <| .cons (t := 11) rfl <| za _) qD qD qF)))))))))
        ·skip
         refine yv qk qk (zi rfl fo115_1 rfl ?_)
         refine zh rfl sc3 rfl qC ?_
         refine ym rfl rfl rfl (z5 rfl rfl (zv (t := 91) rfl (show _ = Value.bool true from congrArg Value.bool (decide_eq_true hk0)) ?_))
         refine ze (dj := 91) rfl rfl rfl (zi rfl fo121_0 rfl ?_)
         refine ze (dj := 91) rfl rfl rfl (zh rfl sc3 rfl qC ?_)
         refine ze (dj := 91) rfl rfl rfl (zi rfl fo115_1 rfl ?_)
         refine ze (dj := 91) rfl rfl rfl (zh rfl sc3 rfl qC ?_)
         refine ze (dj := 91) rfl rfl rfl (yh rfl rfl rfl (y2 rfl rfl rfl (z5 rfl rfl (zv (t := 98) rfl (show _ = Value.bool false from congrArg Value.bool (decide_eq_false (fun q => q hk1))) ?_))))
         refine ze (dj := 98) rfl rfl rfl (zr rfl ag121 rfl qN ?_)
         refine ze (dj := 98) rfl rfl rfl (zW rfl (ev1 rfl) qD qS (rsize_spec (k := z.1) (ps := z.2.1) jO (fun p hp => ⟨(hzi.2 p hp).1, Int.le_trans (hzi.2 p hp).2 jD⟩)) jF ?_)
         refine ze (dj := 98) rfl rfl rfl (zi rfl fo115_0 rfl ?_)
         refine ze (dj := 98) rfl rfl rfl (zi rfl fo105_1 rfl ?_)
         refine ze (dj := 98) rfl rfl rfl (zh rfl sc3 rfl qC ?_)
         exact ze (dj := 98) rfl rfl rfl (yh rfl rfl rfl (y3 rfl rfl rfl (yn (z4 (zH ⟨_, (by simp; omega), rfl, rfl, rfl⟩ (.cons (t := 105) rfl <| za _) (.cons (t := 0) rfl <| .cons (t := 7) rfl <| .cons (t := 8) rfl <| .cons (t := 11) rfl <| za _) qD qD qF)))))
       rintro _ _ _ ⟨w4, hw4, rfl, rfl, rfl⟩
       refine zz qA qA qA ?_
       refine z4 (zo rfl (fun h105 => ?_) (fun h105 => ?_))
       ·try simp only [dq] at h105
        exact z6 (z8 (z9 rfl rfl (z7 (z4 (zm (zt (zX (zt (zt (zX (zt (zy rfl rfl ⟨by unfold whE; rw [← hR, if_pos hok, hI.err (by rw [wh_s hgo h51 hk2 hz hze (hw4.1 h105)]; first | decide | assumption), wh_s hgo h51 hk2 hz hze (hw4.1 h105)], rfl, rfl⟩ qD qF))))))))))))
       ·try simp only [dq] at h105
        have hwf4 : ¬ ((0 < k ∧ ((z.1 : Nat) : Int) ≠ k) ∨ sizeP z.2.1 ≠ p.2) := fun e => by have := hw4.2 e; rw [h105] at this; cases this
        refine zj (z4 (z6 (z8 (y7 rfl bs116 jD (zG (out := []) rfl) (fun b106 => ?_)))))
        refine yG (len := 0) qP (rows := (mor z 0).map stR) (sz := 3) (by rfl) rfl (by simp [mor]) ?_
        refine z9 rfl rfl (z7 (z4 (z6 (z6 (z8 (zi rfl fo121_1 rfl ?_))))))
        refine zh rfl sc119 rfl qC ?_
        refine y1 rfl xw rfl (z5 rfl rfl (z7 (z4 (zq (zV (fun K' D' M' μ => ∃ (j c13 : Nat) (a13 : Option Addr), (j ≤ nn) ∧ K' = [(110, .int .i64 (j : Int)), (13, .slice a13 j c13)] ∧ D' = [] ∧ M' = [own 3 115 a13 j c13 ((mor z j).map stR)] ∧ μ = nn - j) (.cons (t := 0) rfl <| .cons (t := 7) rfl <| .cons (t := 8) rfl <| .cons (t := 11) rfl <| .cons (t := 108) rfl <| .cons (t := 109) rfl <| za _) (⟨0, 0, _, Nat.zero_le _, rfl, rfl, rfl, rfl⟩) (.cons (t := 110) rfl <| .cons (t := 13) rfl <| za _) qD qS ?_)))))
        rintro K1 D1 M1 m1 ⟨j, c13, a13, hj, rfl, rfl, rfl, rfl⟩
        refine zz qA qA qA ?_
        refine z6 (z8 (zQ rfl rfl rfl (z7 (z4 (z6 (zo rfl (fun h111 => ?_) (fun h111 => ?_)))))))
        ·try simp only [dq] at h111
         refine zj (z4 (z6 (zq (z6 ?_))))
         have hgq : z.2.1[j]? = some (gd z.2.1 j) := zJ jO
         obtain ⟨q, hq_⟩ : ∃ x, x = gd z.2.1 j := ⟨_, rfl⟩
         rw [← hq_] at hgq
         clear hq_
         have hrq : (z.2.1.map ptR)[j]? = some (ptR q) := zR hgq
         have hq32 := q.1.2
         refine z8 (yq (i := j) rfl xw sz105 rfl rfl qM jR qG (fun b112 o112 => ?_))
         refine zr rfl ag105 rfl (yX qM (ptR_len _)) ?_
         refine zS rfl ze105 (fun b15 => ?_)
         refine zC ag105 rfl rfl qL qO qU qW ?_
         refine z7 (y9 (A := cl b15 105 (ptR q)) qP ?_)
         refine z4 (z8 (z5 rfl rfl (zr rfl ag105 rfl qN ?_)))
         refine zi rfl fo121_0 rfl ?_
         refine zh rfl sc3 rfl qC ?_
         refine y5 rfl rfl rfl jO ?_
         refine yf rfl bu115 (yE rfl rfl (by first | with_reducible assumption | (simp; done) | (simp only [List.length_map]; with_reducible assumption) | (simp [*]; done) | rfl) (Nat.le_of_ble_eq_true rfl) qR <| zx rfl rfl rfl <| zG (out := []) rfl) ?_
         refine zv (t := 119) (u := .agg (stR (q, ((z.1 : Nat) : Int) - 1)).toArray) rfl (by first | rfl | simp) ?_
         refine y7 rfl bs116 jD (yE rfl rfl (by first | with_reducible assumption | (simp; done) | (simp only [List.length_map]; with_reducible assumption) | (simp [*]; done) | rfl) (Nat.le_of_ble_eq_true rfl) qR <| zG (out := []) rfl) (fun b120 => ?_)
         refine yJ rfl xv el115 rfl rfl qP qM rfl (by intro u hu; exact one_st (s := (q, ((z.1 : Nat) : Int) - 1)) u hu) qI qI (fun a121 c121 => ?_)
         refine z9 rfl rfl (z7 (zI (z4 (z8 (zA rfl rfl rfl jO ?_)))))
         refine z5 rfl rfl (z7 (z4 (y4 _ ((mor z (j + 1)).map stR) qP (by rw [mor_s hgq, List.map_append]; rfl) ?_)))
         exact zL ⟨j + 1, _, _, jO, rfl, rfl, rfl, rfl⟩ qI (.cons (t := 110) rfl <| .cons (t := 13) rfl <| za _) (.cons (t := 0) rfl <| .cons (t := 7) rfl <| .cons (t := 8) rfl <| .cons (t := 11) rfl <| .cons (t := 108) rfl <| .cons (t := 109) rfl <| za _) qD qD qF
        ·try simp only [dq] at h111
         obtain rfl : nn = j := by omega
         refine zM (zp (zp (zN (z4 (z8 (z5 rfl rfl (z5 rfl rfl (xm rfl xv xv el115 rfl rfl qP (rd_D qM) one_sts qI qI (fun a125 c125 => ?_)))))))))
         refine z9 rfl rfl (z7 (zI (z4 (z8 (z5 rfl rfl (zA rfl rfl rfl jO ?_))))))
         refine z9 rfl rfl (z7 (z4 (zY qP (show own 3 115 a125 (nn + (n7 - 1)) c125 ((mor z nn).map stR ++ lr.map stR) = own 3 115 a125 (nn + (n7 - 1)) c125 ((mor z z.2.1.length ++ lr).map stR) from by rw [List.map_append, hnn]) ?_)))
         refine yy (rows := (mor z z.2.1.length ++ lr).map stR) qP ?_
         exact zL ⟨i + 1, nn + (n7 - 1), _, _, mor z z.2.1.length ++ lr, ⟨hI.node hgo h51 hk2 hz hze hwf4, by rw [List.length_append, mor_len (Nat.le_refl _)]; omega⟩, rfl, rfl, rfl, rfl⟩ qI (.cons (t := 8) rfl <| .cons (t := 7) rfl <| za _) (.cons (t := 0) rfl <| za _) qD qD qF
  ·try simp only [dq] at h34
   have hfin := hI.end_ (fun e => by have := hw.2 ⟨e.1, by rw [← hl7]; exact List.length_pos_iff.2 e.2⟩; rw [h34] at this; cases this)
   exact zM (zp (zp (zN (z4 (z6 (z8 (z9 rfl rfl (z7 (z4 (zm (zy rfl rfl ⟨by unfold whE; rw [← hR, if_pos hok, hfin], rfl, rfl⟩ qD qF)))))))))))
end Cv
