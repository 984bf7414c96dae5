/-
  The walks: the objects of a path.
-/
import Derived.Test.YtahkbpiinbepcaaGreatWX15
import Derived.Test.YtahkbpiinbepcaaGreatEN0
import Derived.Test.YtahkbpiinbepcaaGreatQc15
import Derived.Test.YtahkbpiinbepcaaGreatProg
import Derived.KernelRfl
set_option linter.unusedVariables false
set_option linter.unusedSimpArgs false
set_option linter.unusedSectionVars false
set_option maxRecDepth 10000
namespace Cv
open Go Go.Proofs
/-! ## the objects of a path, on a shelf -/
def Uni (os : List Ob) : Prop := ∀ o ∈ os, ∃ n, n < 8 ∧ o ∈ (md n).2.2
def pth (n : Nat) : Ob := (3, nm n, inT (md n).1 (md n).2.1)
theorem pth_id (n : Nat) : (pth n).2.1 = nm n := by simp only [pth]
theorem pth_k (n : Nat) : (pth n).1 = 3 := by simp only [pth]
theorem lf_id (c : List UInt8) : (lf c).1 = oI 1 c := by simp only [lf]
theorem lo_id (c : List UInt8) : (lo c).2.1 = oI 1 c := by simp only [lo]
theorem lo_k (c : List UInt8) : (lo c).1 = 1 := by simp only [lo]
theorem lo_len (c : List UInt8) : (((lo c).2.2.length : Nat) : Int) = (lf c).2 := by simp only [lo, lf]
theorem upt_id (k : Nat) (g : List Pt) : (upt k g).1 = oI 2 (nodeT k g) := by simp only [upt]
theorem upt_sz (k : Nat) (g : List Pt) : (upt k g).2 = sizeP g := by simp only [upt]
theorem uob_id (k : Nat) (g : List Pt) : (uob k g).2.1 = oI 2 (nodeT k g) := by simp only [uob]
theorem uob_k (k : Nat) (g : List Pt) : (uob k g).1 = 2 := by simp only [uob]
theorem uob_tx (k : Nat) (g : List Pt) : (uob k g).2.2 = nodeT k g := by simp only [uob]
theorem pth_in {n : Nat} (h : n < 8) : pth n ∈ (md n).2.2 ∧ (md n).2.2 = pth n :: ((mdCh n).map lo ++ ndO (mdP n)) := by
  have e : (md n).2.2 = pth n :: ((mdCh n).map lo ++ ndO (mdP n)) := by
    unfold pth; rw [md_is h]
  exact ⟨by rw [e]; exact List.mem_cons_self .., e⟩
theorem uni_go {os : List Ob} (hu : Uni os) {o : Ob} (h : o ∈ os) : goF os o.2.1 = some o := by
  cases e : goF os o.2.1 with
  | none =>
    exfalso
    have key : ∀ l : List Ob, o ∈ l → goF l o.2.1 ≠ none := fun l hl => by
      induction l with
      | nil => cases hl
      | cons q l ih =>
        rw [goF]
        split
        · exact fun k => by cases k
        · rename_i c
          rcases List.mem_cons.1 hl with k | k
          · exact absurd (by rw [k]) c
          · exact ih k
    exact key os h e
  | some q =>
    obtain ⟨h1, h2⟩ := goF_mem e
    obtain ⟨n, hn, k1⟩ := hu o h
    obtain ⟨m, hm, k2⟩ := hu q h1
    rw [con hm hn k2 k1 h2]
theorem uni_no {os : List Ob} (hu : Uni os) {o : Ob} {n : Nat} (hn : n < 8) (ho : o ∈ (md n).2.2) (h : o ∉ os) : goF os o.2.1 = none := by
  cases e : goF os o.2.1 with
  | none => rfl
  | some q =>
    obtain ⟨h1, h2⟩ := goF_mem e
    obtain ⟨m, hm, k2⟩ := hu q h1
    exact absurd (con hm hn k2 ho h2 ▸ h1) h
theorem md_root {n : Nat} (h : n < 8) : 1 ≤ (md n).1.2 ∧ (md n).1.2 ≤ 32768 ∧ (md n).1.2 = ((wrS (mdX n)).length : Int) := by
  obtain ⟨w1, w2, w3, w4⟩ := wr_md h
  obtain ⟨p, ns, ⟨e1, -⟩, e2, -⟩ := ofB_out w3
  have e3 : (md n).1 = p := by
    rw [md_is h]; rw [ofB_md h] at e1; exact congrArg (·.1) e1
  have := wrS_len (mdX n)
  rw [e3, e2]; omega
theorem md_refs {n : Nat} (h : n < 8) : (md n).2.1 = sortF ((pkF n 2).map nm) := by rw [md_is h]
theorem pth_par {n : Nat} (h : n < 8) : parI (pth n).2.2 = ((md n).1, (md n).2.1, 0) := by
  obtain ⟨h1, h2, -⟩ := md_root h
  exact par_putI (chkI_put h1 h2 (md_len n) (by rw [md_refs h]; exact (sortF_names _).asc))
theorem lk_yes {os : List Ob} {n : Nat} (hu : Uni os) (hn : n < 8) (h : pth n ∈ os) : lkR os (nm n) = ((md n).1, (md n).2.1, true) := by
  have e := uni_go hu h
  rw [pth_id] at e
  unfold lkR
  rw [e]
  dsimp only
  rw [if_pos (pth_k n), pth_par hn]; simp only [decide_true]
theorem lk_no {os : List Ob} {n : Nat} (hu : Uni os) (hn : n < 8) (h : pth n ∉ os) : lkR os (nm n) = (zP, [], false) := by
  have e := uni_no hu hn (pth_in hn).1 h
  rw [pth_id] at e
  unfold lkR; rw [e]
/-! ### nodes of a path -/
theorem grps_len {ps g : List Pt} (h : g ∈ grps ps) : 1 ≤ g.length ∧ g.length ≤ 8 ∧ ∀ p ∈ g, p ∈ ps := by
  obtain ⟨i, hi, rfl⟩ := List.mem_map.1 h
  have hg : gN ps.length = (ps.length + 7) / 8 := rfl
  have := List.mem_range.1 hi
  have := @grp_len ps i
  exact ⟨by omega, by omega, fun p hp => grp_mem hp⟩
theorem grps_has {ps : List Pt} {p : Pt} (h : p ∈ ps) : ∃ g ∈ grps ps, p ∈ g := by
  obtain ⟨j, hj, rfl⟩ := List.mem_iff_getElem.1 h
  refine ⟨grp ps (j / 8), List.mem_map.2 ⟨j / 8, List.mem_range.2 (by show j / 8 < (ps.length + 7) / 8; omega), rfl⟩, ?_⟩
  unfold grp
  refine List.mem_iff_getElem?.2 ⟨j % 8, ?_⟩
  rw [List.getElem?_take_of_lt (by omega), List.getElem?_drop, show 8 * (j / 8) + j % 8 = j by omega, List.getElem?_eq_getElem hj]
theorem grps_1 {ps : List Pt} (h : gN ps.length = 1) : grps ps = [ps] := by
  have hg : gN ps.length = (ps.length + 7) / 8 := rfl
  unfold grps grI
  rw [h]
  show [grp ps 0] = [ps]
  unfold grp
  rw [Nat.mul_zero, List.drop_zero, List.take_of_length_le (by omega)]
theorem sizeP_in {g : List Pt} {B : Int} (h1 : 1 ≤ g.length) (h8 : g.length ≤ 8) (hB : 0 ≤ B) (hp : ∀ p ∈ g, 1 ≤ p.2 ∧ p.2 ≤ B) : 1 ≤ sizeP g ∧ sizeP g ≤ B * 8 := by
  have a := size_ge (fun p q => (hp p q).1) g.length (Nat.le_refl _)
  have b := sizeI_in (ps := g) (B := B) (fun p q => by have := hp p q; omega) g.length (Nat.le_refl _)
  exact ⟨by unfold sizeP; omega, Int.le_trans b.2 (Int.mul_le_mul_of_nonneg_left (by omega) hB)⟩
theorem mdP_sz {n : Nat} (h : n < 8) : ∀ p ∈ mdP n, 1 ≤ p.2 ∧ p.2 ≤ 256 := fun p hp => by
  obtain ⟨c, hc, rfl⟩ := List.mem_map.1 hp
  have hb := (mdCh_ok h).1 c hc
  unfold badC at hb
  have : c.length ≠ 0 := fun q => hb (.inl (List.length_eq_zero_iff.1 q))
  show 1 ≤ (c.length : Int) ∧ (c.length : Int) ≤ 256; omega
theorem up_sz {n : Nat} (h : n < 8) : ∀ p ∈ upP 1 (mdP n), 1 ≤ p.2 ∧ p.2 ≤ 2048 := fun p hp => by
  obtain ⟨g, hg, rfl⟩ := List.mem_map.1 hp
  obtain ⟨a, b, c⟩ := grps_len hg
  exact sizeP_in a b (by decide) fun p q => mdP_sz h p (c p q)
theorem nd1 {n : Nat} (h : n < 8) {g : List Pt} (hg : g ∈ grps (mdP n)) : nodR (nodeT 1 g) = (1, g, 0) := by
  obtain ⟨a, b, c⟩ := grps_len hg
  have := sizeP_in a b (by decide) fun p q => mdP_sz h p (c p q)
  exact node_put (chkN_put (Nat.le_refl _) (by decide) a b (fun p q => mdP_sz h p (c p q)) (by omega))
theorem nd2 {n : Nat} (h : n < 8) {g : List Pt} (hg : g ∈ grps (upP 1 (mdP n))) : nodR (nodeT 2 g) = (2, g, 0) := by
  obtain ⟨a, b, c⟩ := grps_len hg
  have := sizeP_in a b (by decide) fun p q => up_sz h p (c p q)
  exact node_put (chkN_put (by decide) (by decide) a b (fun p q => up_sz h p (c p q)) (by omega))
theorem in_lo {n : Nat} (h : n < 8) {c : List UInt8} (hc : c ∈ mdCh n) : lo c ∈ (md n).2.2 := by
  rw [(pth_in h).2]; exact List.mem_cons_of_mem _ (List.mem_append_left _ (List.mem_map.2 ⟨c, hc, rfl⟩))
theorem in_n1 {n : Nat} (h : n < 8) {g : List Pt} (hg : g ∈ grps (mdP n)) : uob 1 g ∈ (md n).2.2 := by
  rw [(pth_in h).2]; exact List.mem_cons_of_mem _ (List.mem_append_right _ (List.mem_append_left _ (List.mem_map.2 ⟨g, hg, rfl⟩)))
theorem in_n2 {n : Nat} (h : n < 8) (k : gN (mdP n).length ≠ 1) {g : List Pt} (hg : g ∈ grps (upP 1 (mdP n))) : uob 2 g ∈ (md n).2.2 := by
  rw [(pth_in h).2]; refine List.mem_cons_of_mem _ (List.mem_append_right _ (List.mem_append_right _ ?_))
  rw [if_neg k]; exact List.mem_map.2 ⟨g, hg, rfl⟩
def E7 (e : Int) (p : Prop) : Prop := (e = 0 ∧ p) ∨ (e = 7 ∧ ¬ p)
theorem E7.imp {e : Int} {p q : Prop} (h : E7 e p) (k : p ↔ q) : E7 e q := by
  rcases h with ⟨a, b⟩ | ⟨a, b⟩
  · exact .inl ⟨a, k.1 b⟩
  · exact .inr ⟨a, fun c => b (k.2 c)⟩
theorem fst7 {f : Pt → Int} {p : Pt → Prop} : ∀ {l : List Pt}, (∀ q ∈ l, E7 (f q) (p q)) → E7 (fstE f l) (∀ q ∈ l, p q)
  | [], _ => .inl ⟨rfl, fun q h => by cases h⟩
  | x :: l, h => by
    rw [fstE]
    rcases h x (List.mem_cons_self ..) with ⟨a, b⟩ | ⟨a, b⟩
    · rw [if_neg (fun q => q a)]
      exact (fst7 fun q hq => h q (List.mem_cons_of_mem _ hq)).imp ⟨fun k q hq => (List.mem_cons.1 hq).elim (fun e => by rw [e]; exact b) (k q), fun k q hq => k q (List.mem_cons_of_mem _ hq)⟩
    · rw [if_pos (by rw [a]; decide), a]
      exact .inr ⟨rfl, fun k => b (k x (List.mem_cons_self ..))⟩
theorem w0 {os : List Ob} {n : Nat} (hu : Uni os) (h : n < 8) {c : List UInt8} (hc : c ∈ mdCh n) : E7 (wh os 0 (lf c)) (lo c ∈ os) := by
  by_cases k : lo c ∈ os
  · have e : goF os (lf c).1 = some (lo c) := by rw [lf_id, ← lo_id]; exact uni_go hu k
    refine .inl ⟨?_, k⟩
    rw [wh_0 e, if_neg]
    rintro (q | q)
    · exact q (lo_k c)
    · exact q (lo_len c)
  · exact .inr ⟨wh_none (by rw [lf_id, ← lo_id]; exact uni_no hu h (in_lo h hc) k), k⟩
theorem w1 {os : List Ob} {n : Nat} (hu : Uni os) (h : n < 8) {g : List Pt} (hg : g ∈ grps (mdP n)) {lv : Int} (hl : lv = 1 ∨ lv = -1) : E7 (wh os lv (upt 1 g)) (uob 1 g ∈ os ∧ ∀ c ∈ mdCh n, lf c ∈ g → lo c ∈ os) := by
  by_cases k : uob 1 g ∈ os
  · have e : goF os (upt 1 g).1 = some (uob 1 g) := by rw [upt_id, ← uob_id]; exact uni_go hu k
    have hz := nd1 h hg
    have hw := wh_n (os := os) (lv := lv) (p := upt 1 g) (z := (1, g, 0)) (by omega) e (by omega) (uob_k 1 g) (by rw [uob_tx, hz]) rfl (by
      rintro (q | q)
      · rcases hl with e | e
        · exact q.2 (by rw [e]; rfl)
        · have := q.1; omega
      · rw [upt_sz] at q; exact q rfl)
    rw [hw]
    show E7 (fstE (wh os 0) g) _
    obtain ⟨-, -, gm⟩ := grps_len hg
    refine (fst7 (p := fun q => ∀ c ∈ mdCh n, lf c = q → lo c ∈ os) fun q hq => ?_).imp ⟨fun a => ⟨k, fun c hc hg => a _ hg c hc rfl⟩, fun a q hq c hc e => a.2 c hc (by rw [e]; exact hq)⟩
    obtain ⟨c, hc, e⟩ := List.mem_map.1 (gm q hq)
    subst e
    refine (w0 hu h hc).imp ⟨fun a d hd e => ?_, fun a => a c hc rfl⟩
    have e2 : (lo d).2.1 = (lo c).2.1 := by rw [lo_id, lo_id, ← lf_id, ← lf_id, e]
    rw [con h h (in_lo h hd) (in_lo h hc) e2]; exact a
  · exact .inr ⟨wh_none (by rw [upt_id, ← uob_id]; exact uni_no hu h (in_n1 h hg) k), fun a => k a.1⟩
theorem w2 {os : List Ob} {n : Nat} (hu : Uni os) (h : n < 8) (hk : gN (mdP n).length ≠ 1) {g : List Pt} (hg : g ∈ grps (upP 1 (mdP n))) : E7 (wh os (-1) (upt 2 g)) (uob 2 g ∈ os ∧ ∀ u ∈ grps (mdP n), upt 1 u ∈ g → uob 1 u ∈ os ∧ ∀ c ∈ mdCh n, lf c ∈ u → lo c ∈ os) := by
  by_cases k : uob 2 g ∈ os
  · have e : goF os (upt 2 g).1 = some (uob 2 g) := by rw [upt_id, ← uob_id]; exact uni_go hu k
    have hz := nd2 h hg
    have hw := wh_n (os := os) (lv := -1) (p := upt 2 g) (z := (2, g, 0)) (by decide) e (by decide) (uob_k 2 g) (by rw [uob_tx, hz]) rfl (by
      rintro (q | q)
      · exact absurd q.1 (by decide)
      · rw [upt_sz] at q; exact q rfl)
    rw [hw]
    show E7 (fstE (wh os 1) g) _
    obtain ⟨-, -, gm⟩ := grps_len hg
    refine (fst7 (p := fun q => ∀ u ∈ grps (mdP n), upt 1 u = q → uob 1 u ∈ os ∧ ∀ c ∈ mdCh n, lf c ∈ u → lo c ∈ os) fun q hq => ?_).imp ⟨fun a => ⟨k, fun u hu2 hg => a _ hg u hu2 rfl⟩, fun a q hq u hu2 e => a.2 u hu2 (by rw [e]; exact hq)⟩
    obtain ⟨u, hu2, e⟩ := List.mem_map.1 (gm q hq)
    subst e
    refine (w1 hu h hu2 (.inl rfl)).imp ⟨fun a d hd e => ?_, fun a => a u hu2 rfl⟩
    have e2 : (uob 1 d).2.1 = (uob 1 u).2.1 := by rw [uob_id, uob_id, ← upt_id, ← upt_id, e]
    have e3 := con h h (in_n1 h hd) (in_n1 h hu2) e2
    have e4 : nodeT 1 d = nodeT 1 u := by rw [← uob_tx 1 d, ← uob_tx 1 u, e3]
    have e5 : d = u := by
      have a1 := nd1 h hd
      have a2 := nd1 h hu2
      rw [e4, a2] at a1
      exact (congrArg (·.2.1) a1).symm
    rw [e5]; exact a
  · exact .inr ⟨wh_none (by rw [upt_id, ← uob_id]; exact uni_no hu h (in_n2 h hk hg) k), fun a => k a.1⟩
theorem root_is {n : Nat} (h : n < 8) : (gN (mdP n).length = 1 ∧ (md n).1 = upt 1 (mdP n) ∧ grps (mdP n) = [mdP n]) ∨ (gN (mdP n).length ≠ 1 ∧ (md n).1 = upt 2 (upP 1 (mdP n)) ∧ grps (upP 1 (mdP n)) = [upP 1 (mdP n)]) := by
  have e : (md n).1 = rtP (mdP n) := by rw [md_is h]
  by_cases c : gN (mdP n).length = 1
  · refine .inl ⟨c, ?_, grps_1 c⟩
    rw [e]; unfold rtP; rw [if_pos c]
    unfold upP; rw [grps_1 c]; rfl
  · obtain ⟨h1, h2, h3, h4⟩ := mdCh_ok h
    have hl : (mdP n).length = (mdCh n).length := List.length_map ..
    have hg : gN (mdP n).length = ((mdP n).length + 7) / 8 := rfl
    have hu := @upP_len 1 (mdP n)
    have c2 : gN (upP 1 (mdP n)).length = 1 := by show ((upP 1 (mdP n)).length + 7) / 8 = 1; omega
    refine .inr ⟨c, ?_, grps_1 c2⟩
    rw [e]; unfold rtP; rw [if_neg c]
    show ((grps (upP 1 (mdP n))).map (upt 2)).headD zP = _
    rw [grps_1 c2]; rfl
theorem md_mem {n : Nat} (h : n < 8) (o : Ob) : o ∈ (md n).2.2 ↔ o = pth n ∨ (∃ c ∈ mdCh n, o = lo c) ∨ (∃ g ∈ grps (mdP n), o = uob 1 g) ∨ (gN (mdP n).length ≠ 1 ∧ ∃ g ∈ grps (upP 1 (mdP n)), o = uob 2 g) := by
  constructor
  · intro ho
    rw [(pth_in h).2] at ho
    rcases List.mem_cons.1 ho with q | q
    · exact .inl q
    · rcases List.mem_append.1 q with q | q
      · obtain ⟨c, hc, e⟩ := List.mem_map.1 q; exact .inr (.inl ⟨c, hc, e.symm⟩)
      · rcases List.mem_append.1 q with q | q
        · obtain ⟨c, hc, e⟩ := List.mem_map.1 q; exact .inr (.inr (.inl ⟨c, hc, e.symm⟩))
        · split at q
          · cases q
          · rename_i k; obtain ⟨c, hc, e⟩ := List.mem_map.1 q; exact .inr (.inr (.inr ⟨k, c, hc, e.symm⟩))
  · rintro (q | ⟨c, hc, q⟩ | ⟨g, hg, q⟩ | ⟨k, g, hg, q⟩)
    · rw [q]; exact (pth_in h).1
    · rw [q]; exact in_lo h hc
    · rw [q]; exact in_n1 h hg
    · rw [q]; exact in_n2 h k hg
theorem whole_iff {os : List Ob} {n : Nat} (hu : Uni os) (h : n < 8) : E7 (whE os (nm n)) (∀ o ∈ (md n).2.2, o ∈ os) := by
  by_cases k : pth n ∈ os
  · unfold whE
    rw [lk_yes hu h k, if_pos rfl]
    show E7 (wh os (-1) (md n).1) _
    rcases root_is h with ⟨c, e, eg⟩ | ⟨c, e, eg⟩
    · rw [e]
      refine (w1 hu h (by rw [eg]; exact List.mem_singleton.2 rfl) (.inr rfl)).imp ⟨fun a o ho => ?_, fun a => ⟨a _ (in_n1 h (by rw [eg]; exact List.mem_singleton.2 rfl)), fun d hd _ => a _ (in_lo h hd)⟩⟩
      rcases (md_mem h o).1 ho with q | ⟨d, hd, q⟩ | ⟨g, hg, q⟩ | ⟨k2, -⟩
      · rw [q]; exact k
      · rw [q]; exact a.2 d hd (List.mem_map.2 ⟨d, hd, rfl⟩)
      · rw [eg] at hg; rw [q, List.mem_singleton.1 hg]; exact a.1
      · exact absurd c k2
    · rw [e]
      refine (w2 hu h c (by rw [eg]; exact List.mem_singleton.2 rfl)).imp ⟨fun a o ho => ?_, fun a => ⟨a _ (in_n2 h c (by rw [eg]; exact List.mem_singleton.2 rfl)), fun u hu2 _ => ⟨a _ (in_n1 h hu2), fun d hd _ => a _ (in_lo h hd)⟩⟩⟩
      have up : ∀ u ∈ grps (mdP n), upt 1 u ∈ upP 1 (mdP n) := fun u hu2 => List.mem_map.2 ⟨u, hu2, rfl⟩
      rcases (md_mem h o).1 ho with q | ⟨d, hd, q⟩ | ⟨g, hg, q⟩ | ⟨-, g, hg, q⟩
      · rw [q]; exact k
      · obtain ⟨u, hu2, hm⟩ := grps_has (List.mem_map.2 ⟨d, hd, rfl⟩ : lf d ∈ mdP n)
        rw [q]; exact (a.2 u hu2 (up u hu2)).2 d hd hm
      · rw [q]; exact (a.2 g hg (up g hg)).1
      · rw [eg] at hg; rw [q, List.mem_singleton.1 hg]; exact a.1
  · refine .inr ⟨?_, fun a => k (a _ (pth_in h).1)⟩
    unfold whE
    rw [lk_no hu h k]; rfl


end Cv
