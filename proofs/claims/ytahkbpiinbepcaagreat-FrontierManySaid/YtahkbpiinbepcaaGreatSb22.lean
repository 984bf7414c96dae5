/-
  The walks: fronts of stocks.
-/
import Derived.Test.YtahkbpiinbepcaaGreatRb22
import Derived.Test.YtahkbpiinbepcaaGreatProg
import Derived.KernelRfl
set_option linter.unusedVariables false
set_option linter.unusedSimpArgs false
set_option linter.unusedSectionVars false
set_option maxRecDepth 10000
namespace Cv
open Go Go.Proofs
/-! ## stocks: how deep their trees and references are -/
theorem ptd_0 {os : List Ob} {d : Nat} {q : Pt} : PtD os (d + 1) 0 q := fun h => absurd rfl h
theorem nd_go {os : List Ob} {x : Wnt} (h : ndB os x = true) : goF os x.2.1 = some (getO os x.2.1) := getE_0 (of_decide_eq_true h).1
theorem up1_z {os : List Ob} (hu : Uni os) {n : Nat} (h : n < 8) {g : List Pt} (hg : g ∈ grps (mdP n)) {m : Int} (hB : ndB os (2, (upt 1 g).1, m) = true) : nodR (getO os (upt 1 g).1).2.2 = (1, g, 0) := by
  have e := nd_go hB
  have e2 : goF os (uob 1 g).2.1 = some (getO os (upt 1 g).1) := by rw [uob_id, ← upt_id]; exact e
  rw [go_is hu h (in_n1 h hg) e2, uob_tx]; exact nd1 h hg
theorem up2_z {os : List Ob} (hu : Uni os) {n : Nat} (h : n < 8) (c : gN (mdP n).length ≠ 1) {g : List Pt} (hg : g ∈ grps (upP 1 (mdP n))) {m : Int} (hB : ndB os (2, (upt 2 g).1, m) = true) : nodR (getO os (upt 2 g).1).2.2 = (2, g, 0) := by
  have e := nd_go hB
  have e2 : goF os (uob 2 g).2.1 = some (getO os (upt 2 g).1) := by rw [uob_id, ← upt_id]; exact e
  rw [go_is hu h (in_n2 h c hg) e2, uob_tx]; exact nd2 h hg
theorem ptd_1 {os : List Ob} (hu : Uni os) {n : Nat} (h : n < 8) {g : List Pt} (hg : g ∈ grps (mdP n)) {d : Nat} {k : Int} : PtD os (d + 2) k (upt 1 g) := fun _ hB _ q hq => by
  have e := up1_z hu h hg hB
  have : ((((nodR (getO os (upt 1 g).1).2.2).1 : Nat) : Int) - 1) = 0 := by rw [e]; rfl
  rw [this]; exact ptd_0
theorem ptd_r {os : List Ob} (hu : Uni os) {n : Nat} (h : n < 8) : PtD os 3 (-1) (md n).1 := by
  rcases root_is h with ⟨c, er, eg⟩ | ⟨c, er, eg⟩
  · rw [er]; exact ptd_1 hu h (by rw [eg]; exact List.mem_singleton.2 rfl)
  · rw [er]
    intro _ hB _ q hq
    have e := up2_z hu h c (by rw [eg]; exact List.mem_singleton.2 rfl) hB
    rw [e] at hq ⊢
    obtain ⟨u, hu2, e3⟩ := List.mem_map.1 hq
    rw [← e3]; exact ptd_1 hu h hu2
theorem lk_uni {os : List Ob} (hu : Uni os) {y : ID32} (h : (lkR os y).2.2 = true) : ∃ n, n < 8 ∧ y = nm n ∧ pth n ∈ os := by
  have h2 := h
  unfold lkR at h2
  cases e : goF os y with
  | none => rw [e] at h2; cases h2
  | some o =>
    rw [e] at h2
    dsimp only at h2
    obtain ⟨h3, h4⟩ := goF_mem e
    split at h2
    · rename_i k
      obtain ⟨n, hn, ho⟩ := hu o h3
      refine ⟨n, hn, ?_⟩
      rcases (md_mem hn o).1 ho with q | ⟨c, hc, q⟩ | ⟨g, hg, q⟩ | ⟨_, g, hg, q⟩
      · exact ⟨by rw [← h4, q, pth_id], q ▸ h3⟩
      · rw [q, lo_k] at k; exact absurd k (by decide)
      · rw [q, uob_k] at k; exact absurd k (by decide)
      · rw [q, uob_k] at k; exact absurd k (by decide)
    · cases h2
theorem uni_ptd {os : List Ob} (hu : Uni os) : ∀ y, (lkR os y).2.2 = true → PtD os 3 (-1) (lkR os y).1 := fun y h => by
  obtain ⟨n, hn, rfl, hp⟩ := lk_uni hu h
  rw [lk_yes hu hn hp]; exact ptd_r hu hn
theorem rf_md {n : Nat} (h : n < 8) {r : ID32} (hr : r ∈ (md n).2.1) : ∃ k, k < n ∧ r = nm k := by
  rw [md_refs h] at hr
  obtain ⟨k, hk, e⟩ := List.mem_map.1 (((sortF_names _).mem r).1 hr)
  exact ⟨k, pkF_lt hk, e.symm⟩
theorem uni_pd {os : List Ob} (hu : Uni os) : ∀ (f n : Nat), n < f → n < 8 → PDp os f (nm n)
  | 0, n, h, _ => absurd h (Nat.not_lt_zero n)
  | f + 1, n, h, h8 => fun hk r hr => by
    obtain ⟨m, hm, e, hp⟩ := lk_uni hu hk
    rw [e, lk_yes hu hm hp] at hr
    have hp2 : pth n ∈ os := by
      have e2 : (pth n).2.1 = (pth m).2.1 := by rw [pth_id, pth_id, e]
      rw [con h8 hm (pth_in h8).1 (pth_in hm).1 e2]; exact hp
    have e3 : (md m).2.1 = (md n).2.1 := by
      have a := lk_yes hu h8 hp2
      rw [e, lk_yes hu hm hp] at a
      exact congrArg (·.2.1) a
    rw [e3] at hr
    obtain ⟨k, hk2, rfl⟩ := rf_md h8 hr
    exact uni_pd hu f k (by omega) (by omega)
/-! ### a tree that is there -/
theorem nd_in {os : List Ob} (hu : Uni os) {o : Ob} (h : o ∈ os) {k m : Int} {x : ID32} (hx : x = o.2.1) (hk : o.1 = k) : ndB os (k, x, m) = true := by
  subst hx
  have e := uni_go hu h
  exact decide_eq_true ⟨getE_hit e, by show (getO os o.2.1).1 = k; rw [getO_hit e]; exact hk⟩
theorem stp_full {g : Pt → List Wnt → List Wnt × Bool} {ws : List Wnt} : ∀ l : List Pt, (∀ q ∈ l, g q ws = (ws, true)) → l.foldl (stp g) (ws, true) = (ws, true)
  | [], _ => rfl
  | q :: l, h => by
    rw [List.foldl_cons]
    have : stp g (ws, true) q = (ws, true) := by
      show ((g q ws).1, (g q ws).2 && true) = _
      rw [h q (List.mem_cons_self ..)]; rfl
    rw [this]; exact stp_full l fun q hq => h q (List.mem_cons_of_mem _ hq)
theorem full_0 {os : List Ob} (hu : Uni os) {c : List UInt8} (h : lo c ∈ os) {d : Nat} {ws : List Wnt} : ptF os (d + 1) 0 (lf c) ws = (ws, true) := by
  have e : ndB os (1, (lf c).1, (lf c).2) = true := nd_in hu h (by rw [lf_id, lo_id]) (lo_k c)
  rw [pt_0, ndW_t e, e]
theorem full_1 {os : List Ob} (hu : Uni os) {n : Nat} (h : n < 8) {g : List Pt} (hg : g ∈ grps (mdP n)) (hn : uob 1 g ∈ os) (hc : ∀ c ∈ mdCh n, lo c ∈ os) {d : Nat} {k : Int} (hk : k ≠ 0) {ws : List Wnt} : ptF os (d + 2) k (upt 1 g) ws = (ws, true) := by
  have e : ndB os (2, (upt 1 g).1, 292) = true := nd_in hu hn (by rw [upt_id, uob_id]) (uob_k 1 g)
  have ez := up1_z hu h hg e
  rw [pt_n hk e rfl ez.symm rfl]
  refine stp_full _ fun q hq => ?_
  obtain ⟨c, hc2, rfl⟩ := List.mem_map.1 ((grps_len hg).2.2 q hq)
  exact full_0 hu (hc c hc2)
theorem pt_full {os : List Ob} (hu : Uni os) {n : Nat} (h : n < 8) (ha : ∀ o ∈ (md n).2.2, o ∈ os) {ws : List Wnt} : ptF os 3 (-1) (md n).1 ws = (ws, true) := by
  rcases root_is h with ⟨c, er, eg⟩ | ⟨c, er, eg⟩
  · rw [er]
    have hg : mdP n ∈ grps (mdP n) := by rw [eg]; exact List.mem_singleton.2 rfl
    exact full_1 hu h hg (ha _ (in_n1 h hg)) (fun c hc => ha _ (in_lo h hc)) (by decide)
  · rw [er]
    have hg : upP 1 (mdP n) ∈ grps (upP 1 (mdP n)) := by rw [eg]; exact List.mem_singleton.2 rfl
    have e : ndB os (2, (upt 2 (upP 1 (mdP n))).1, 292) = true := nd_in hu (ha _ (in_n2 h c hg)) (by rw [upt_id, uob_id]) (uob_k 2 _)
    have ez := up2_z hu h c hg e
    rw [pt_n (by decide) e rfl ez.symm rfl]
    refine stp_full _ fun q hq => ?_
    obtain ⟨u, hu2, rfl⟩ := List.mem_map.1 hq
    exact full_1 hu h hu2 (ha _ (in_n1 h hu2)) (fun c hc => ha _ (in_lo h hc)) (show (((2 : Nat) : Int) - 1) ≠ 0 by decide)
/-! ### no two of the eight names are one -/
/-! ### references that are there -/
/-! ### awake -/
theorem uni_nil : Uni [] := fun o h => by cases h
theorem aw22_a {f : Nat} {x : ID32} : pthF [] (fun _ => false) (f + 1) x fs0 = (⟨[x], [x], [(3, x, 294)], []⟩, true) := by
  rw [fp_u (fun q => by cases q) rfl rfl]
  have e : ndB [] (3, x, 294) = false := decide_eq_false fun q => absurd (show (7 : Int) = 0 from q.1) (by decide)
  rw [ndW_new e (fun q => by cases q)]; rfl
theorem aw22_b {f : Nat} : pthF (md 0).2.2 (fun _ => false) (f + 1) (nm 0) fs0 = (⟨[nm 0], [nm 0], [], [nm 0]⟩, true) := by
  have hu := uni_md (n := 0) (by decide)
  have e := lk_yes hu (by decide) (pth_in (n := 0) (by decide)).1
  rw [fp_k (fun q => by cases q) rfl (by rw [e]), e, refs_0]
  show knF _ _ (md 0).1 (⟨[nm 0], [], [], []⟩, true) = _
  rw [knF_yes]
  have p := pt_full hu (n := 0) (by decide) (fun o h => h) (ws := [])
  unfold finF
  rw [p]; rfl


end Cv
