/-
  The walks: a chain of paths.
-/
import Derived.Test.YtahkbpiinbepcaaGreatTb22
import Derived.Test.YtahkbpiinbepcaaGreatEW22
import Derived.Test.YtahkbpiinbepcaaGreatProg
import Derived.KernelRfl
set_option linter.unusedVariables false
set_option linter.unusedSimpArgs false
set_option linter.unusedSectionVars false
set_option maxRecDepth 10000
namespace Cv
open Go Go.Proofs
/-! ## a chain of paths: its front -/
def mob (i : Nat) : Ob := (3, cn (i + 1), inT (bId i, 1) [cn i])
theorem mob_id (i : Nat) : (mob i).2.1 = cn (i + 1) := by simp only [mob]
theorem mob_k (i : Nat) : (mob i).1 = 3 := by simp only [mob]
theorem mob_tx (i : Nat) : (mob i).2.2 = inT (bId i, 1) [cn i] := by simp only [mob]
def mos (n : Nat) : List Ob := (List.range n).map mob
theorem mos_s (n : Nat) : mos (n + 1) = mos n ++ [mob n] := by unfold mos; rw [List.range_succ, List.map_append]; rfl
theorem mos_get {n i : Nat} (h : i < n) : (mos n)[i]? = some (mob i) := by unfold mos; rw [List.getElem?_map, List.getElem?_range h]; rfl
theorem mos_in {n : Nat} {o : Ob} (h : o ∈ mos n) : ∃ i, i < n ∧ o = mob i := by
  obtain ⟨i, hi, e⟩ := List.mem_map.1 h
  exact ⟨i, List.mem_range.1 hi, e.symm⟩
theorem mos_shf (n : Nat) : Shf (mos n) := fun o ho => by
  obtain ⟨i, -, rfl⟩ := mos_in ho
  rw [mob_tx]
  exact Nat.le_trans (inT_len (by show (1 : Int) ≤ _; decide) (by show 1 ≤ 1000000; decide)) (by show 50 + 32 * 1 ≤ 1000000; decide)
theorem mo_go {n i : Nat} (hn : n ≤ 60) (h : i < n) : goF (mos n) (cn (i + 1)) = some (mob i) := by
  refine goF_hit (i := i) (fun y hy => ?_) (mos_get h) (mob_id i)
  obtain ⟨j, hj⟩ := List.getElem?_of_mem hy
  have hl := (List.getElem?_eq_some_iff.1 hj).1
  rw [List.length_take] at hl
  rw [List.getElem?_take_of_lt (by omega), mos_get (by omega)] at hj
  injection hj with hj
  rw [← hj, mob_id]
  intro e
  have := cn_inj (by omega) (by omega) e
  omega
theorem mo_g0 {n : Nat} (hn : n ≤ 60) : goF (mos n) (cn 0) = none := goF_miss fun y hy => by
  obtain ⟨i, hi, rfl⟩ := mos_in hy
  rw [mob_id]
  intro e
  have := cn_inj (by omega) (by omega) e
  omega
theorem mo_par (i : Nat) : parI (mob i).2.2 = ((bId i, 1), [cn i], 0) := by
  rw [mob_tx]
  exact par_putI (chkI_put (by show (1 : Int) ≤ 1; decide) (by show (1 : Int) ≤ 32768; decide) (by show 1 ≤ 8; decide) (List.pairwise_singleton _ _))
theorem mo_lk {n i : Nat} (hn : n ≤ 60) (h : i < n) : lkR (mos n) (cn (i + 1)) = ((bId i, 1), [cn i], true) := by
  have e := mo_go hn h
  unfold lkR
  rw [e]
  dsimp only
  rw [if_pos (mob_k i), mo_par]; simp only [decide_true]
theorem mo_l0 {n : Nat} (hn : n ≤ 60) : lkR (mos n) (cn 0) = (zP, [], false) := by
  unfold lkR; rw [mo_g0 hn]
theorem mo_nd {n : Nat} (x : ID32) (m : Int) : ndB (mos n) (2, x, m) = false := decide_eq_false fun q => by
  have e0 := getE_0 q.1
  obtain ⟨i, -, e1⟩ := mos_in (goF_mem e0).1
  have e2 : (getO (mos n) x).1 = 2 := q.2
  have e3 : getO (mos n) x = mob i := e1
  rw [e3, mob_k] at e2
  exact absurd e2 (by decide)
theorem mo_nd0 {n : Nat} (hn : n ≤ 60) (m : Int) : ndB (mos n) (3, cn 0, m) = false := decide_eq_false fun q => by
  have e0 : getE (mos n) (cn 0) = 0 := q.1
  rw [getE_miss (mo_g0 hn)] at e0
  exact absurd e0 (by decide)
theorem mo_ptd {n : Nat} (y : ID32) (_ : (lkR (mos n) y).2.2 = true) : PtD (mos n) 3 (-1) (lkR (mos n) y).1 := fun _ hB => by rw [mo_nd] at hB; cases hB
theorem mo_pd {n : Nat} (hn : n ≤ 60) : ∀ f i, i < f → i ≤ n → PDp (mos n) f (cn i)
  | 0, i, h, _ => absurd h (Nat.not_lt_zero i)
  | f + 1, 0, _, _ => fun hk => by rw [mo_l0 hn] at hk; cases hk
  | f + 1, i + 1, h, hi => fun _ r hr => by
    rw [mo_lk hn (by omega)] at hr
    rw [List.mem_singleton.1 hr]
    exact mo_pd hn f i (by omega) (by omega)
def Pn (i : Nat) : List ID32 := (List.range (i + 1)).map cn
def Wn (i : Nat) : List Wnt := (3, cn 0, 294) :: (List.range i).map fun j => (2, bId j, 292)
theorem Pn_len (i : Nat) : (Pn i).length = i + 1 := by unfold Pn; simp
theorem Wn_len (i : Nat) : (Wn i).length = i + 1 := by unfold Wn; simp
theorem Pn_s (i : Nat) : Pn i ++ [cn (i + 1)] = Pn (i + 1) := by unfold Pn; rw [List.range_succ (n := i + 1), List.map_append]; rfl
theorem Wn_s (i : Nat) : Wn i ++ [(2, bId i, 292)] = Wn (i + 1) := by unfold Wn; rw [List.range_succ (n := i), List.map_append, List.cons_append]; rfl
theorem Wn_ok (i : Nat) : WOk (Wn i) := fun w hw => by
  unfold Wn at hw
  rcases List.mem_cons.1 hw with e | e
  · rw [e]; exact ⟨by show (0 : Int) ≤ 294; decide, by show (294 : Int) ≤ 1000000; decide⟩
  · obtain ⟨j, -, e⟩ := List.mem_map.1 e
    rw [← e]; exact ⟨by show (0 : Int) ≤ 292; decide, by show (292 : Int) ≤ 1000000; decide⟩
theorem Wn_new {i : Nat} (h : i ≤ 60) : (2, bId i, 292) ∉ Wn i := fun hw => by
  unfold Wn at hw
  rcases List.mem_cons.1 hw with e | e
  · exact absurd (show (2 : Int) = 3 from congrArg (·.1) e) (by decide)
  · obtain ⟨j, hj, e⟩ := List.mem_map.1 e
    have hj := List.mem_range.1 hj
    have := bId_inj (by omega) h (congrArg (fun w : Wnt => w.2.1) e)
    omega
abbrev noT : ID32 → Bool := fun _ => false
theorem mo_step {n i f : Nat} (hn : n ≤ 60) (hi : i < n) {s : FS} (h : cn (i + 1) ∉ s.sn) : pthF (mos n) noT (f + 1) (cn (i + 1)) s = knF (mos n) (cn (i + 1)) (bId i, 1) (lsF (pthF (mos n) noT f) [cn i] ⟨s.sn ++ [cn (i + 1)], s.ps, s.ws, s.rs⟩) := by
  rw [fp_k h rfl (by rw [mo_lk hn hi]), mo_lk hn hi]
theorem ls_one {g : ID32 → FS → FS × Bool} {r : ID32} {s : FS} : lsF g [r] s = g r s := by
  rw [lsF]
  cases e : (g r s).2 with
  | true => rw [if_pos rfl]; exact Prod.ext rfl e.symm
  | false => rw [if_neg (by decide)]; exact Prod.ext rfl e.symm
theorem mo_new {i n : Nat} (hn : n ≤ 60) (hi : i + 1 ≤ n) {sn : List ID32} (h : ∀ j, j ≤ i + 1 → cn j ∉ sn) : ∀ j, j ≤ i → cn j ∉ sn ++ [cn (i + 1)] := fun j hj q => by
  rcases List.mem_append.1 q with q | q
  · exact h j (by omega) q
  · have := cn_inj (by omega) (by omega) (List.mem_singleton.1 q)
    omega
theorem mo_A {n : Nat} (hn : n ≤ 60) : ∀ (i f : Nat) (sn : List ID32), i < f → i ≤ n → i ≤ 32 → (∀ j, j ≤ i → cn j ∉ sn) → ∃ sn', pthF (mos n) noT f (cn i) ⟨sn, [], [], []⟩ = (⟨sn', Pn i, Wn i, []⟩, decide (i + 1 ≤ 32))
  | i, 0, _, h, _, _, _ => absurd h (Nat.not_lt_zero i)
  | 0, f + 1, sn, _, _, _, hs => by
    refine ⟨sn ++ [cn 0], ?_⟩
    rw [fp_u (hs 0 (Nat.le_refl _)) rfl (by rw [mo_l0 hn])]
    have e := mo_nd0 hn 294
    rw [ndW_new e (fun q => by cases q)]; rfl
  | i + 1, f + 1, sn, h, hi, h32, hs => by
    obtain ⟨sn', e⟩ := mo_A hn i f (sn ++ [cn (i + 1)]) (by omega) (by omega) (by omega) (mo_new hn hi hs)
    refine ⟨sn', ?_⟩
    rw [mo_step hn (by omega) (hs _ (Nat.le_refl _)), ls_one]
    dsimp only
    rw [e, decide_eq_true (by omega), knF_yes]
    unfold finF
    have hnd : ndB (mos n) (2, (bId i, (1 : Int)).1, 292) = false := mo_nd (bId i) 292
    rw [pt_m (by decide) hnd]
    dsimp only
    rw [ndW_new hnd (Wn_new (by omega)), Wn_s, Pn_s, Pn_len]; rfl
theorem mo_B {n : Nat} (hn : n ≤ 60) : ∀ (i f : Nat) (sn : List ID32), i < f → i ≤ n → 32 ≤ i → (∀ j, j ≤ i → cn j ∉ sn) → (pthF (mos n) noT f (cn i) ⟨sn, [], [], []⟩).2 = false
  | i, 0, _, h, _, _, _ => absurd h (Nat.not_lt_zero i)
  | 0, f + 1, sn, _, _, h, _ => absurd h (by decide)
  | i + 1, f + 1, sn, h, hi, h32, hs => by
    by_cases c : i + 1 = 32
    · obtain ⟨sn', e⟩ := mo_A hn (i + 1) (f + 1) sn h hi (by omega) hs
      rw [e]; exact decide_eq_false (by omega)
    · have e := mo_B hn i f (sn ++ [cn (i + 1)]) (by omega) (by omega) (by omega) (mo_new hn hi hs)
      rw [mo_step hn (by omega) (hs _ (Nat.le_refl _)), ls_one]
      dsimp only
      unfold knF
      rw [if_neg (by rw [e]; decide)]; exact e
theorem tb_nil : (fun y : ID32 => decide (y.1 ∈ ([] : List (List UInt8)))) = noT := funext fun y => decide_eq_false fun q => by cases q


end Cv
