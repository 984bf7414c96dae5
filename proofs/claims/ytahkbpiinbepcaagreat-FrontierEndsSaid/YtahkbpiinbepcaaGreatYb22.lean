/-
  The walks: when all comes.
-/
import Derived.Test.YtahkbpiinbepcaaGreatWb22
import Derived.Test.YtahkbpiinbepcaaGreatEVd
import Derived.Test.YtahkbpiinbepcaaGreatProg
import Derived.KernelRfl
set_option linter.unusedVariables false
set_option linter.unusedSimpArgs false
set_option linter.unusedSectionVars false
set_option maxRecDepth 10000
namespace Cv
open Go Go.Proofs
/-! ## when all comes it ends: the plain law -/
def dObs : List Ob := dtA.map obD
theorem md_dObs {n : Nat} (h : n < 8) {o : Ob} (ho : o ∈ (md n).2.2) : o ∈ dObs := by
  obtain ⟨l, h1, h2⟩ := mem_dt h
  rw [h2] at ho
  obtain ⟨d, hd, e⟩ := List.mem_map.1 ho
  exact List.mem_map.2 ⟨d, h1 d hd, e⟩
theorem tx_md {n : Nat} (h : n < 8) {o : Ob} (ho : o ∈ (md n).2.2) : (o.1 = 3 → o.2.2.length ≤ 294) ∧ (o.1 = 2 → o.2.2.length ≤ 292) := by
  obtain ⟨d, hd, e⟩ := List.mem_map.1 (md_dObs h ho)
  have := of_decide_eq_true (List.all_eq_true.1 tx_dt d hd)
  rw [← e]; exact this
def miss (os : List Ob) : Nat := (dObs.filter fun o => decide (o ∉ os)).length
theorem miss_0 : miss [] ≤ 100 := Nat.le_trans (List.length_filter_le _ _) (by unfold dObs; rw [List.length_map]; exact len_dt)
theorem miss_s {os : List Ob} {o : Ob} (h : o ∈ dObs) (k : o ∉ os) : miss (os ++ [o]) + 1 ≤ miss os :=
  filt_lt (fun x hx => decide_eq_true fun q => of_decide_eq_true hx (List.mem_append_left _ q)) ⟨o, h, decide_eq_true k, decide_eq_false fun q => q (List.mem_append_right _ (List.mem_singleton.2 rfl))⟩
/-! ### each want is an object of the paths -/
def WQ (os : List Ob) (ws : List Wnt) : Prop := ∀ w ∈ ws, ∃ n o, n < 8 ∧ o ∈ (md n).2.2 ∧ o.2.1 = w.2.1 ∧ o.1 = w.1 ∧ ((o.2.2.length : Nat) : Int) ≤ w.2.2 ∧ goF os w.2.1 = none
theorem WQ.nw {os : List Ob} (hu : Uni os) {ws : List Wnt} (h : WQ os ws) {n : Nat} (hn : n < 8) {o : Ob} (ho : o ∈ (md n).2.2) {k m : Int} {x : ID32} (hx : x = o.2.1) (hk : o.1 = k) (hm : ((o.2.2.length : Nat) : Int) ≤ m) : WQ os (ndW os ws (k, x, m)) := by
  unfold ndW; split
  · exact h
  · rename_i c
    split
    · exact h
    · intro w hw
      rcases List.mem_append.1 hw with q | q
      · exact h w q
      · rw [List.mem_singleton.1 q]
        exact ⟨n, o, hn, ho, hx.symm, hk, hm, nd_none (x := x) (k := k) (m := m) hu hn ho hx hk (by simpa using c)⟩
theorem wq_0 {os : List Ob} (hu : Uni os) {n : Nat} (h : n < 8) {c : List UInt8} (hc : c ∈ mdCh n) {d : Nat} {ws : List Wnt} (k : WQ os ws) : WQ os (ptF os (d + 1) 0 (lf c) ws).1 := by
  rw [pt_0]
  exact k.nw hu h (in_lo h hc) (by rw [lf_id, lo_id]) (lo_k c) (by rw [lo_len]; exact Int.le_refl _)
theorem wq_1 {os : List Ob} (hu : Uni os) {n : Nat} (h : n < 8) {g : List Pt} (hg : g ∈ grps (mdP n)) {d : Nat} {lv : Int} (h0 : lv ≠ 0) {ws : List Wnt} (k : WQ os ws) : WQ os (ptF os (d + 2) lv (upt 1 g) ws).1 := by
  cases e : ndB os (2, (upt 1 g).1, 292) with
  | false =>
    rw [pt_m h0 e]
    exact k.nw hu h (in_n1 h hg) (by rw [upt_id, uob_id]) (uob_k 1 g) (by have := (tx_md h (in_n1 h hg)).2 (uob_k 1 g); omega)
  | true =>
    have ez := up1_z hu h hg e
    rw [pt_n h0 e rfl ez.symm rfl]
    refine stp_P _ _ (fun q hq ws kw => ?_) k
    obtain ⟨c, hc, rfl⟩ := List.mem_map.1 ((grps_len hg).2.2 q hq)
    exact wq_0 hu h hc kw
theorem wq_r {os : List Ob} (hu : Uni os) {n : Nat} (h : n < 8) {ws : List Wnt} (k : WQ os ws) : WQ os (ptF os 3 (-1) (md n).1 ws).1 := by
  rcases root_is h with ⟨c, er, eg⟩ | ⟨c, er, eg⟩
  · rw [er]
    exact wq_1 hu h (by rw [eg]; exact List.mem_singleton.2 rfl) (by decide) k
  · rw [er]
    have hg : upP 1 (mdP n) ∈ grps (upP 1 (mdP n)) := by rw [eg]; exact List.mem_singleton.2 rfl
    cases e : ndB os (2, (upt 2 (upP 1 (mdP n))).1, 292) with
    | false =>
      rw [pt_m (by decide) e]
      exact k.nw hu h (in_n2 h c hg) (by rw [upt_id, uob_id]) (uob_k 2 _) (by have := (tx_md h (in_n2 h c hg)).2 (uob_k 2 _); omega)
    | true =>
      have ez := up2_z hu h c hg e
      rw [pt_n (by decide) e rfl ez.symm rfl]
      refine stp_P _ _ (fun q hq ws kw => ?_) k
      obtain ⟨v, hv, rfl⟩ := List.mem_map.1 hq
      exact wq_1 hu h hv (show (((2 : Nat) : Int) - 1) ≠ 0 by decide) kw
theorem pth_wq {os : List Ob} (hu : Uni os) (tb : ID32 → Bool) : ∀ (f : Nat) (x : ID32) (s : FS), N8 x → WQ os s.ws → WQ os (pthF os tb f x s).1.ws
  | 0, x, s, _, h => h
  | f + 1, x, s, hx, h => by
    obtain ⟨k, hk, rfl⟩ := hx
    have ls : ∀ (l : List ID32) (s : FS), (∀ r ∈ l, N8 r) → WQ os s.ws → WQ os (lsF (pthF os tb f) l s).1.ws := fun l => by
      induction l with
      | nil => exact fun s _ h => h
      | cons r l ih =>
        intro s hl h
        have a := pth_wq hu tb f r s (hl r (List.mem_cons_self ..)) h
        rw [lsF]; split
        · exact ih _ (fun q hq => hl q (List.mem_cons_of_mem _ hq)) a
        · exact a
    rw [pthF]
    split
    · exact h
    · split
      · exact h
      · split
        · rename_i c2
          obtain ⟨m, hm, e, hp⟩ := lk_uni hu c2
          rw [e, lk_yes hu hm hp]
          dsimp only
          have a := ls (md m).2.1 ⟨s.sn ++ [nm m], s.ps, s.ws, s.rs⟩ (fun r hr => by
            obtain ⟨j, hj, e2⟩ := rf_md hm hr
            exact ⟨j, by omega, e2⟩) h
          unfold knF; split
          · exact wq_r hu hm a
          · exact a
        · exact h.nw hu hk (pth_in hk).1 (by rw [pth_id]) (pth_k k) (by have := (tx_md hk (pth_in hk).1).1 (pth_k k); omega)
/-! ### when nothing is needed all is ready -/
theorem ndW_nil {os : List Ob} {ws : List Wnt} {x : Wnt} (h : ndW os ws x = []) : ws = [] ∧ ndB os x = true := by
  cases e : ndB os x with
  | true => rw [ndW_t e] at h; exact ⟨h, rfl⟩
  | false =>
    exfalso
    by_cases c : x ∈ ws
    · rw [ndW_in c] at h; rw [h] at c; cases c
    · rw [ndW_new e c] at h; simp at h
theorem stp_end {g : Pt → List Wnt → List Wnt × Bool} : ∀ (l : List Pt) (s : List Wnt × Bool), (∀ q ∈ l, ∀ ws, (g q ws).1 = [] → ws = [] ∧ (g q ws).2 = true) → (l.foldl (stp g) s).1 = [] → s.1 = [] ∧ (l.foldl (stp g) s).2 = s.2
  | [], s, _, k => ⟨k, rfl⟩
  | q :: l, s, h, k => by
    rw [List.foldl_cons] at k ⊢
    obtain ⟨a, b⟩ := stp_end l _ (fun q hq => h q (List.mem_cons_of_mem _ hq)) k
    obtain ⟨c, d⟩ := h q (List.mem_cons_self ..) s.1 a
    refine ⟨c, b.trans ?_⟩
    show ((g q s.1).2 && s.2) = s.2
    rw [d]; rfl
theorem pt_end {os : List Ob} : ∀ (d : Nat) (lv : Int) (p : Pt) (ws : List Wnt), (ptF os d lv p ws).1 = [] → ws = [] ∧ (ptF os d lv p ws).2 = true
  | 0, lv, p, ws, h => ⟨h, rfl⟩
  | d + 1, lv, p, ws, h => by
    rw [ptF] at h ⊢
    split at h
    · rename_i c; rw [if_pos c]; exact ndW_nil h
    · rename_i c
      rw [if_neg c]
      split at h
      · rename_i c2
        have := (ndW_nil h).2
        rw [c2] at this; cases this
      · rename_i c2
        rw [if_neg c2]
        split at h
        · rename_i c3; rw [if_pos c3]; exact ⟨h, rfl⟩
        · rename_i c3
          rw [if_neg c3]
          exact stp_end _ _ (fun q _ ws hw => pt_end d _ q ws hw) h
theorem pth_end {os : List Ob} (hu : Uni os) (tb : ID32 → Bool) : ∀ (f : Nat) (x : ID32) (s : FS), N8 x → (pthF os tb f x s).1.ws = [] → s.ws = [] ∧ (s.rs.length = s.ps.length → (pthF os tb f x s).1.rs.length = (pthF os tb f x s).1.ps.length)
  | 0, x, s, _, h => ⟨h, id⟩
  | f + 1, x, s, hx, h => by
    obtain ⟨k, hk, rfl⟩ := hx
    have ls : ∀ (l : List ID32) (s : FS), (∀ r ∈ l, N8 r) → (lsF (pthF os tb f) l s).1.ws = [] → s.ws = [] ∧ (s.rs.length = s.ps.length → (lsF (pthF os tb f) l s).1.rs.length = (lsF (pthF os tb f) l s).1.ps.length) := fun l => by
      induction l with
      | nil => exact fun s _ h => ⟨h, id⟩
      | cons r l ih =>
        intro s hl h
        rw [lsF] at h ⊢
        split at h
        · rename_i c
          rw [if_pos c]
          obtain ⟨a, b⟩ := ih _ (fun q hq => hl q (List.mem_cons_of_mem _ hq)) h
          obtain ⟨a2, b2⟩ := pth_end hu tb f r s (hl r (List.mem_cons_self ..)) a
          exact ⟨a2, fun q => b (b2 q)⟩
        · rename_i c
          rw [if_neg c]
          exact pth_end hu tb f r s (hl r (List.mem_cons_self ..)) h
    by_cases c0 : nm k ∈ s.sn
    · rw [fp_s c0] at h ⊢; exact ⟨h, id⟩
    · cases c1 : tb (nm k) with
      | true => rw [fp_t c0 c1] at h ⊢; exact ⟨h, id⟩
      | false =>
        cases c2 : (lkR os (nm k)).2.2 with
        | false =>
          rw [fp_u c0 c1 c2] at h
          have n := (ndW_nil h).2
          exfalso
          have e1 := getE_0 (of_decide_eq_true n).1
          have e2 := go_is hu hk (pth_in hk).1 (by rw [pth_id]; exact e1)
          have e3 : pth k ∈ os := e2 ▸ (goF_mem e1).1
          rw [lk_yes hu hk e3] at c2; cases c2
        | true =>
          obtain ⟨m, hm, e, hp⟩ := lk_uni hu c2
          rw [fp_k c0 c1 c2] at h ⊢
          have hr8 : ∀ r ∈ (lkR os (nm k)).2.1, N8 r := fun r hr => by
            rw [e, lk_yes hu hm hp] at hr
            obtain ⟨j, hj, e2⟩ := rf_md hm hr
            exact ⟨j, by omega, e2⟩
          have a := ls (lkR os (nm k)).2.1 ⟨s.sn ++ [nm k], s.ps, s.ws, s.rs⟩ hr8
          generalize lsF (pthF os tb f) (lkR os (nm k)).2.1 ⟨s.sn ++ [nm k], s.ps, s.ws, s.rs⟩ = r at a h ⊢
          unfold knF at h ⊢
          split at h
          · rename_i c3
            rw [if_pos c3]
            obtain ⟨b1, b2⟩ := pt_end 3 (-1) (lkR os (nm k)).1 r.1.ws h
            obtain ⟨a1, a2⟩ := a b1
            refine ⟨a1, fun q => ?_⟩
            unfold finF
            rw [if_pos b2]
            dsimp only
            rw [List.length_append, List.length_append, a2 q]
          · rename_i c3
            rw [if_neg c3]; exact a h
theorem pth_last {os : List Ob} {tb : ID32 → Bool} {f : Nat} {x : ID32} {s : FS} (h : x ∉ s.sn) (k : tb x = false) (g : (pthF os tb (f + 1) x s).2 = true) : ∃ l, (pthF os tb (f + 1) x s).1.ps = l ++ [x] := by
  cases c2 : (lkR os x).2.2 with
  | false => rw [fp_u h k c2]; exact ⟨_, rfl⟩
  | true =>
    rw [fp_k h k c2] at g ⊢
    unfold knF at g ⊢
    split at g
    · rename_i c; rw [if_pos c]; exact ⟨_, rfl⟩
    · rename_i c; exact absurd g c
/-! ### the map of all objects -/
@[reducible] def obV (o : Ob) : Value := .agg (obC o).toArray
abbrev AlM := List (ID32 × Ob)
def AlI (i j : Nat) (ml : AlM) : Prop := (∀ x o, look ml x = some o → ∃ n, n < 8 ∧ o ∈ (md n).2.2 ∧ o.2.1 = x) ∧ (∀ n, n < i → ∀ o ∈ (md n).2.2, look ml o.2.1 ≠ none) ∧ (∀ o ∈ (md i).2.2.take j, look ml o.2.1 ≠ none)
theorem AlI.start : AlI 0 0 [] := ⟨fun x o h => (by cases h), fun n h => absurd h (Nat.not_lt_zero n), fun o h => (by cases h)⟩
theorem AlI.s {i j : Nat} {ml : AlM} {o : Ob} (hi : i < 8) (h : AlI i j ml) (g : (md i).2.2[j]? = some o) : AlI i (j + 1) (put ml o.2.1 o) := by
  obtain ⟨a, b, c⟩ := h
  refine ⟨fun x q hq => ?_, fun n hn q hq => ?_, fun q hq => ?_⟩
  · rw [look_put] at hq
    split at hq
    · rename_i e
      injection hq with hq
      exact ⟨i, hi, hq ▸ List.mem_of_getElem? g, by rw [← hq, e]⟩
    · exact a x q hq
  · rw [look_put]; split
    · exact fun e => by cases e
    · exact b n hn q hq
  · rw [look_put]; split
    · exact fun e => by cases e
    · rename_i e
      rw [List.take_add_one, g] at hq
      rcases List.mem_append.1 hq with r | r
      · exact c q r
      · obtain rfl : q = o := by simpa using r
        exact absurd rfl e
theorem AlI.next {i j : Nat} {ml : AlM} (h : AlI i j ml) (k : (md i).2.2.length ≤ j) : AlI (i + 1) 0 ml := by
  obtain ⟨a, b, c⟩ := h
  rw [List.take_of_length_le k] at c
  refine ⟨a, fun n hn q hq => ?_, fun q hq => by cases hq⟩
  rcases Nat.lt_or_ge n i with e | e
  · exact b n e q hq
  · obtain rfl : n = i := by omega
    exact c q hq
theorem AlI.get {ml : AlM} (h : AlI 8 0 ml) {n : Nat} (hn : n < 8) {o : Ob} (ho : o ∈ (md n).2.2) : look ml o.2.1 = some o := by
  obtain ⟨a, b, -⟩ := h
  cases e : look ml o.2.1 with
  | none => exact absurd e (b n hn o ho)
  | some q =>
    obtain ⟨m, hm, hq, e2⟩ := a _ q e
    rw [con hm hn hq ho e2]
theorem pick_in (z : Int) {m : Nat} (h : 0 < m) : ∃ k : Nat, k < m ∧ (z.tmod m + m).tmod m = (k : Int) := by
  have a := Int.tmod_lt_of_pos z (show (0 : Int) < m by omega)
  have b : -(m : Int) < z.tmod m := by
    have := Int.lt_tmod_of_pos z (show (0 : Int) < m by omega)
    exact this
  have c := Int.tmod_nonneg (m : Int) (show 0 ≤ z.tmod m + m by omega)
  have d := Int.tmod_lt_of_pos (z.tmod m + m) (show (0 : Int) < m by omega)
  exact ⟨((z.tmod m + m).tmod m).toNat, by omega, by omega⟩


end Cv
