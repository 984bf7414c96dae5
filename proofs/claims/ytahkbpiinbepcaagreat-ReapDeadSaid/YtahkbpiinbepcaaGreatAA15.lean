/-
  The walks: nodes read.
-/
import Derived.Test.YtahkbpiinbepcaaGreatSU11
import Derived.Test.YtahkbpiinbepcaaGreatKL11
import Derived.Test.YtahkbpiinbepcaaGreatP06
import Derived.Test.YtahkbpiinbepcaaGreatProg
import Derived.KernelRfl
import Derived.Test.YtahkbpiinbepcaaGreatCvLg
set_option linter.unusedVariables false
set_option linter.unusedSimpArgs false
set_option linter.unusedSectionVars false
set_option maxHeartbeats 400000
set_option maxRecDepth 10000
namespace Cv
open Go Go.Proofs
theorem obR_len (o : Ob) : (obR o).length = 3 := rfl
/-! ## nodes read: the plain model -/
def ptsL : Nat → Bl → List Pt × Bl
  | 0, b => ([], b)
  | n + 1, b => if b.err ≠ 0 then ([], b) else (((idR b).1, ((intR (idR b).2 32768).1 : Int)) :: (ptsL n (intR (idR b).2 32768).2).1, (ptsL n (intR (idR b).2 32768).2).2)
structure PtsI (b : Bl) (n j : Nat) (q : Bl) (acc : List Pt) : Prop where
  r1 : (ptsL n b).1 = acc ++ (ptsL j q).1
  r2 : (ptsL n b).2 = (ptsL j q).2
  len : acc.length + j = n
theorem PtsI.start {b : Bl} {n : Nat} : PtsI b n n b [] := ⟨rfl, rfl, Nat.zero_add _⟩
theorem PtsI.next {b q : Bl} {n j : Nat} {acc : List Pt} (h : PtsI b n (j + 1) q acc) (e : q.err = 0) : PtsI b n j (intR (idR q).2 32768).2 (acc ++ [((idR q).1, ((intR (idR q).2 32768).1 : Int))]) := by
  obtain ⟨h1, h2, h3⟩ := h
  rw [ptsL, if_neg (fun k => k e)] at h1 h2
  exact ⟨by rw [h1]; simp, h2, by rw [List.length_append]; simp only [List.length_singleton]; omega⟩
theorem PtsI.stop {b q : Bl} {n j : Nat} {acc : List Pt} (h : PtsI b n j q acc) (e : j = 0 ∨ q.err ≠ 0) : ptsL n b = (acc, q) := by
  obtain ⟨h1, h2, h3⟩ := h
  have : ptsL j q = ([], q) := by
    cases j with
    | zero => rfl
    | succ j => rw [ptsL, if_pos (by rcases e with e | e <;> first | omega | exact e)]
  rw [this] at h1 h2
  exact Prod.ext (by rw [h1]; simp) h2
theorem ptsL_len : ∀ (n : Nat) (b : Bl), (ptsL n b).1.length ≤ n
  | 0, _ => Nat.le_refl _
  | n + 1, b => by
    rw [ptsL]
    split
    · simp
    · have := ptsL_len n (intR (idR b).2 32768).2
      simp only [List.length_cons]; omega
theorem ptsL_in : ∀ (n : Nat) (b : Bl), ∀ p ∈ (ptsL n b).1, 0 ≤ p.2 ∧ p.2 ≤ 32768
  | 0, _, p, h => by cases h
  | n + 1, b, p, h => by
    rw [ptsL] at h
    split at h
    · cases h
    · rcases List.mem_cons.1 h with e | e
      · have := int_le (idR b).2 32768
        rw [e]; show 0 ≤ ((intR (idR b).2 32768).1 : Int) ∧ ((intR (idR b).2 32768).1 : Int) ≤ 32768; omega
      · exact ptsL_in n _ p e
def mostF (k : Nat) : Nat := min (256 * 8 ^ (k - 1)) 32768
theorem mostF_s (i : Nat) : mostF (i + 2) = min (mostF (i + 1) * 8) 32768 := by
  unfold mostF
  rw [show i + 2 - 1 = i + 1 by omega, show i + 1 - 1 = i by omega, Nat.pow_succ]
  omega
def badP (k : Nat) (p : Pt) : Int := if p.2 < 1 then 2 else if (mostF k : Int) < p.2 then 5 else 0
def chkG (k : Nat) : List Pt → Int
  | [] => 0
  | p :: ps => if badP k p ≠ 0 then badP k p else chkG k ps
def chkN (k : Nat) (ps : List Pt) : Int := if k < 1 ∨ 8 < k ∨ ps = [] then 2 else if 8 < ps.length then 5 else if chkG k ps ≠ 0 then chkG k ps else if 32768 < sizeP ps then 5 else 0
theorem chkG_hit {k : Nat} : ∀ {ps : List Pt} {i : Nat} {p : Pt}, (∀ y ∈ ps.take i, badP k y = 0) → ps[i]? = some p → badP k p ≠ 0 → chkG k ps = badP k p
  | [], _, _, _, h, _ => by simp at h
  | q :: ps, 0, p, _, h, e => by
    obtain rfl : q = p := by simpa using h
    rw [chkG, if_pos e]
  | q :: ps, i + 1, p, hn, h, e => by
    rw [chkG, if_neg (fun z => z (hn q (by simp)))]
    exact chkG_hit (i := i) (fun y hy => hn y (by rw [List.take_succ_cons]; exact List.mem_cons_of_mem _ hy)) (by simpa using h) e
theorem chkG_ok {k : Nat} : ∀ {ps : List Pt}, (∀ y ∈ ps, badP k y = 0) → chkG k ps = 0
  | [], _ => rfl
  | q :: ps, h => by rw [chkG, if_neg (fun z => z (h q (by simp)))]; exact chkG_ok fun y hy => h y (by simp [hy])
theorem chkG_all {k : Nat} : ∀ {ps : List Pt}, chkG k ps = 0 → ∀ y ∈ ps, badP k y = 0
  | q :: ps, h, y, hy => by
    rw [chkG] at h
    split at h
    · rename_i c; exact absurd h c
    · rename_i c
      rcases List.mem_cons.1 hy with e | e
      · rw [e]; exact Decidable.not_not.1 c
      · exact chkG_all h y e
theorem bad_snoc {k i : Nat} {ps : List Pt} {p : Pt} (h : ps[i]? = some p) (hn : ∀ y ∈ ps.take i, badP k y = 0) (e : badP k p = 0) : ∀ y ∈ ps.take (i + 1), badP k y = 0 := fun y hy => by
  rw [List.take_add_one, h] at hy
  rcases List.mem_append.1 hy with q | q
  · exact hn y q
  · obtain rfl : y = p := by simpa using q
    exact e
theorem chkN_2 {k : Nat} {ps : List Pt} (h : k < 1 ∨ 8 < k ∨ ps = []) : chkN k ps = 2 := if_pos h
theorem chkN_5 {k : Nat} {ps : List Pt} (h : ¬ (k < 1 ∨ 8 < k ∨ ps = [])) (h5 : 8 < ps.length) : chkN k ps = 5 := by unfold chkN; rw [if_neg h, if_pos h5]
theorem chkN_b {k : Nat} {ps : List Pt} {i : Nat} {p : Pt} (h : ¬ (k < 1 ∨ 8 < k ∨ ps = [])) (h5 : ¬ 8 < ps.length) (hn : ∀ y ∈ ps.take i, badP k y = 0) (hp : ps[i]? = some p) (e : badP k p ≠ 0) : chkN k ps = badP k p := by
  unfold chkN; rw [if_neg h, if_neg h5, chkG_hit hn hp e, if_pos e]
theorem chkN_s {k : Nat} {ps : List Pt} (h : ¬ (k < 1 ∨ 8 < k ∨ ps = [])) (h5 : ¬ 8 < ps.length) (hn : ∀ y ∈ ps, badP k y = 0) : chkN k ps = if 32768 < sizeP ps then 5 else 0 := by
  unfold chkN; rw [if_neg h, if_neg h5, chkG_ok hn, if_neg (fun q => q rfl)]
theorem badP_2 {k : Nat} {p : Pt} (h : p.2 < 1) : badP k p = 2 := if_pos h
theorem badP_5 {k : Nat} {p : Pt} (h : ¬ p.2 < 1) (h2 : (mostF k : Int) < p.2) : badP k p = 5 := by unfold badP; rw [if_neg h, if_pos h2]
theorem badP_0 {k : Nat} {p : Pt} (h : ¬ p.2 < 1) (h2 : ¬ (mostF k : Int) < p.2) : badP k p = 0 := by unfold badP; rw [if_neg h, if_neg h2]
def nodZ (s : List UInt8) : (Nat × Bl) × (Nat × Bl) × (List Pt × Bl) := (intR ⟨s, 0⟩ 8, intR (intR ⟨s, 0⟩ 8).2 8, ptsL (intR (intR ⟨s, 0⟩ 8).2 8).1 (intR (intR ⟨s, 0⟩ 8).2 8).2)
def nodR (s : List UInt8) : Nat × List Pt × Int :=
  if closeE (nodZ s).2.2.2 ≠ 0 then (0, [], closeE (nodZ s).2.2.2)
  else if chkN (nodZ s).1.1 (nodZ s).2.2.1 ≠ 0 then (0, [], chkN (nodZ s).1.1 (nodZ s).2.2.1)
  else ((nodZ s).1.1, (nodZ s).2.2.1, 0)
theorem nodR_len (s : List UInt8) : (nodR s).2.1.length ≤ 8 := by
  have h : (nodZ s).2.2.1.length ≤ 8 := Nat.le_trans (ptsL_len _ _) (int_le _ 8)
  unfold nodR
  split
  · simp
  · split
    · simp
    · exact h
theorem nodR_in (s : List UInt8) : (nodR s).1 ≤ 8 ∧ ∀ p ∈ (nodR s).2.1, 0 ≤ p.2 ∧ p.2 ≤ 32768 := by
  have h : (nodZ s).1.1 ≤ 8 := int_le _ 8
  have h2 := ptsL_in (nodZ s).2.1.1 (nodZ s).2.1.2
  unfold nodR
  split
  · exact ⟨by show 0 ≤ 8; decide, fun p hp => (by cases hp)⟩
  · split
    · exact ⟨by show 0 ≤ 8; decide, fun p hp => (by cases hp)⟩
    · exact ⟨h, h2⟩
theorem nodR_ok {s : List UInt8} (h : (nodR s).2.2 = 0) : chkN (nodR s).1 (nodR s).2.1 = 0 := by
  unfold nodR at h ⊢
  split at h
  · rename_i k; exact absurd h k
  · rename_i k
    rw [if_neg k]
    split at h
    · rename_i k2; exact absurd h k2
    · rename_i k2; rw [if_neg k2]; exact Decidable.not_not.1 k2
theorem chkN_0 {k : Nat} {ps : List Pt} (h : chkN k ps = 0) : 1 ≤ k ∧ k ≤ 8 ∧ ps ≠ [] ∧ ps.length ≤ 8 ∧ (∀ p ∈ ps, 1 ≤ p.2 ∧ p.2 ≤ mostF k) ∧ sizeP ps ≤ 32768 := by
  unfold chkN at h
  split at h
  · exact absurd h (by decide)
  · rename_i c1
    split at h
    · exact absurd h (by decide)
    · rename_i c2
      split at h
      · rename_i c3; exact absurd h c3
      · rename_i c3
        split at h
        · exact absurd h (by decide)
        · rename_i c4
          have hg := chkG_all (Decidable.not_not.1 c3)
          refine ⟨by omega, by omega, fun e => c1 (.inr (.inr e)), by omega, fun p hp => ?_, by omega⟩
          have := hg p hp
          unfold badP at this
          split at this
          · exact absurd this (by decide)
          · split at this
            · exact absurd this (by decide)
            · omega

theorem nk_of {k n : Nat} {ps : List Pt} (hpl : ps.length = n) (h : k < 1 ∨ 8 < k ∨ n < 1) : k < 1 ∨ 8 < k ∨ ps = [] := by
  rcases h with q | q | q
  · exact .inl q
  · exact .inr (.inl q)
  · exact .inr (.inr (List.length_eq_zero_iff.1 (by omega)))
theorem nk_not {k n : Nat} {ps : List Pt} (hpl : ps.length = n) (h : ¬ (k < 1 ∨ 8 < k ∨ n < 1)) : ¬ (k < 1 ∨ 8 < k ∨ ps = []) := fun q => by
  rcases q with q | q | q
  · exact h (.inl q)
  · exact h (.inr (.inl q))
  · rw [q] at hpl; exact h (.inr (.inr (by simp at hpl; omega)))
theorem z_or {j : Nat} {e : Int} (h : ¬ (0 < j ∧ e = 0)) : j = 0 ∨ e ≠ 0 := by
  rcases Nat.eq_zero_or_pos j with q | q
  · exact .inl q
  · exact .inr fun k => h ⟨q, k⟩

theorem most_spec {k : Nat} (hk : 1 ≤ k ∧ k ≤ 1000) : Spec Tryz.prog 155 [.int .i64 (k : Int)] [] [] (fun v D' M' => v = .int .i64 (mostF k : Nat) ∧ D' = [] ∧ M' = []) := by
 refine zC (n := 13) Tryz.func155 ?_
 intro σ D M
 refine z6 (z8 (z9 rfl rfl (z7 (z4 (z6 (z8 (z9 rfl rfl (z7 (z4 (z6 (z6 (z8 (z5 rfl rfl (y7 rfl rfl rfl jO ?_))))))))))))))
 refine z5 rfl rfl (z7 (z4 (zr (zX (fun K' D' M' μ => ∃ (i : Nat), (i ≤ k - 1) ∧ K' = [(6, .int .i64 (i : Int)), (3, .int .i64 (mostF (i + 1) : Nat))] ∧ D' = [] ∧ M' = [] ∧ μ = k - 1 - i) (.c 5 rfl <| za _) (⟨0, Nat.zero_le _, rfl, rfl, rfl, rfl⟩) (.c 6 rfl <| .c 3 rfl <| za _) qD qS ?_))))
 rintro K1 D1 M1 m1 ⟨i, hi, rfl, rfl, rfl, rfl⟩
 refine zF qA qA qA ?_
 have hml : mostF (i + 1) ≤ 32768 := Nat.min_le_right _ _
 refine z6 (z8 (zQ rfl rfl rfl (z7 (z4 (z6 (zo rfl (fun h7 => ?_) (fun h7 => ?_)))))))
 ·try simp only [dq] at h7
  refine zm (z4 (z6 (zr (z8 (z5 rfl rfl (L.mulN rfl rfl rfl jO ?_))))))
  refine L.minI rfl rfl rfl ?_
  refine zv (t := 10) (u := .int .i64 (mostF (i + 2) : Nat)) rfl (congrArg (Value.int .i64) (by have := mostF_s i; omega)) ?_
  refine z9 rfl rfl (z7 (zI (z4 (z8 (zH rfl rfl rfl jO ?_)))))
  exact z5 rfl rfl (z7 (z4 (zM ⟨i + 1, jO, rfl, rfl, rfl, rfl⟩ qI (.c 6 rfl <| .c 3 rfl <| za _) (.c 5 rfl <| za _) qD qD qF)))
 ·try simp only [dq] at h7
  obtain rfl : k = i + 1 := by omega
  exact zR (zq (zq (zS (z4 (z6 (z8 (z5 rfl rfl (z9 rfl rfl (z7 (z4 (zi (zz rfl rfl ⟨rfl, rfl, rfl⟩ qD qF))))))))))))
theorem ncheck_spec {k n c : Nat} {a : Option Addr} {ps : List Pt} (hn : n ≤ 1000000) (hp : ∀ p ∈ ps, 0 ≤ p.2 ∧ p.2 ≤ 1000000000) : Spec Tryz.prog 125 [.agg #[.int .i64 (k : Int), .slice a n c]] [rsl 33 a n c (ps.map ptC)] [] (fun v D' M' => v = .int .i64 (chkN k ps) ∧ D' = [] ∧ M' = []) := by
 refine zC (n := 45) Tryz.func125 ?_
 intro σ D M
 refine yH (rows := ps.map ptC) qM (fun hpl hpc => ?_)
 rw [List.length_map] at hpl
 
 refine z6 (z8 (yq rfl rfl rfl (fun b1 => ?_)))
 refine z9 rfl rfl (z7 (y1 (A := cl b1 49 [.int .i64 (k : Int), .slice a n c]) qP ?_))
 refine z4 (z6 (zr (z6 (yu (fun K' D' M' => ∃ (w : Bool), (w = true ↔ (k < 1 ∨ 8 < k ∨ n < 1)) ∧ K' = [(5, .bool w)] ∧ D' = [] ∧ M' = []) (M0 := []) (.c 1 rfl <| za _) qS ?_ ?_))))
 ·skip
  refine z8 (zj rfl fo49_0 rfl ?_)
  refine zh rfl sc3 rfl qC ?_
  refine zQ rfl rfl rfl (z5 rfl rfl (yM (t := 9) rfl (fun h1 => ?_) (fun h1 => ?_)))
  ·try simp only [dq] at h1
   exact zg (dj := 9) (c := true) rfl rfl rfl rfl rfl jD (zg (dj := 9) (c := true) rfl rfl rfl rfl rfl jD (zg (dj := 9) (c := true) rfl rfl rfl rfl rfl jD (ye rfl rfl rfl (z5 rfl rfl (zg (dj := 14) (c := true) rfl rfl rfl rfl rfl jD (zg (dj := 14) (c := true) rfl rfl rfl rfl rfl jD (zg (dj := 14) (c := true) rfl rfl rfl rfl rfl jD (zg (dj := 14) (c := true) rfl rfl rfl rfl rfl jD (ye rfl rfl rfl (z9 rfl rfl (z7 (z4 (zK ⟨_, (by simp_all <;> omega), rfl, rfl, rfl⟩ (.c 5 rfl <| za _) (.c 1 rfl <| za _) qD qD qF)))))))))))))
  ·try simp only [dq] at h1
   refine zf (dj := 9) rfl rfl rfl (zj rfl fo49_0 rfl ?_)
   refine zf (dj := 9) rfl rfl rfl (zh rfl sc3 rfl qC ?_)
   refine zf (dj := 9) rfl rfl rfl (yB rfl rfl rfl (y5 rfl rfl rfl (z5 rfl rfl (yM (t := 14) rfl (fun h2 => ?_) (fun h2 => ?_)))))
   ·try simp only [dq] at h2
    exact zg (dj := 14) (c := true) rfl rfl rfl rfl rfl jD (zg (dj := 14) (c := true) rfl rfl rfl rfl rfl jD (zg (dj := 14) (c := true) rfl rfl rfl rfl rfl jD (zg (dj := 14) (c := true) rfl rfl rfl rfl rfl jD (ye rfl rfl rfl (z9 rfl rfl (z7 (z4 (zK ⟨_, (by simp_all <;> omega), rfl, rfl, rfl⟩ (.c 5 rfl <| za _) (.c 1 rfl <| za _) qD qD qF))))))))
   ·try simp only [dq] at h2
    refine zf (dj := 14) rfl rfl rfl (zj rfl fo49_1 rfl ?_)
    refine zf (dj := 14) rfl rfl rfl (zh rfl sc47 rfl qC ?_)
    exact zf (dj := 14) rfl rfl rfl (y2 rfl x7 rfl (zf (dj := 14) rfl rfl rfl (zQ rfl rfl rfl (y5 rfl rfl rfl (z9 rfl rfl (z7 (z4 (zK ⟨_, (by simp_all <;> omega), rfl, rfl, rfl⟩ (.c 5 rfl <| za _) (.c 1 rfl <| za _) qD qD qF))))))))
 rintro _ _ _ ⟨w, hw, rfl, rfl, rfl⟩
 refine zF qA qA qA ?_
 refine z4 (zo rfl (fun h5 => ?_) (fun h5 => ?_))
 ·try simp only [dq] at h5
  have hk2 := nk_of hpl (hw.1 h5)
  exact z6 (z8 (z9 rfl rfl (z7 (z4 (zi (y3 (zD (zz rfl rfl ⟨by rw [chkN_2 hk2], rfl, rfl⟩ qD qF))))))))
 ·try simp only [dq] at h5
  have hwf : ¬ (k < 1 ∨ 8 < k ∨ n < 1) := fun e => by have := hw.2 e; rw [h5] at this; cases this
  have hk1 : ¬ (k < 1 ∨ 8 < k ∨ ps = []) := nk_not hpl jO
  refine z6 (z8 (zj rfl fo49_1 rfl ?_))
  refine zh rfl sc47 rfl qC ?_
  refine y2 rfl x7 rfl (yB rfl rfl rfl (z9 rfl rfl (z7 (z4 (zo rfl (fun h20 => ?_) (fun h20 => ?_))))))
  ·try simp only [dq] at h20
   exact z6 (z8 (z9 rfl rfl (z7 (z4 (zi (y3 (zD (zz rfl rfl ⟨by rw [chkN_5 hk1 jO], rfl, rfl⟩ qD qF))))))))
  ·try simp only [dq] at h20
   refine zm (zI (z4 (z6 (z6 (z8 (zj rfl fo49_1 rfl ?_))))))
   refine zh rfl sc47 rfl qC ?_
   refine y2 rfl x7 rfl (z5 rfl rfl (z7 (z4 (zr (zX (fun K' D' M' μ => ∃ (i : Nat), (i ≤ n ∧ ∀ y ∈ ps.take i, badP k y = 0) ∧ K' = [(28, .int .i64 (i : Int))] ∧ D' = [] ∧ M' = [] ∧ μ = n - i) (.c 1 rfl <| .c 26 rfl <| .c 27 rfl <| za _) (⟨0, ⟨Nat.zero_le _, by simp⟩, rfl, rfl, rfl, rfl⟩) (.c 28 rfl <| za _) qD qS ?_)))))
   rintro K1 D1 M1 m1 ⟨i, ⟨hi, hno⟩, rfl, rfl, rfl, rfl⟩
   refine zF qA qA qA ?_
   refine z6 (z8 (zQ rfl rfl rfl (z7 (z4 (z6 (zo rfl (fun h29 => ?_) (fun h29 => ?_)))))))
   ·try simp only [dq] at h29
    refine zm (z4 (z6 (zr (z6 ?_))))
    have hgi : ps[i]? = some (gd ps i) := zJ jO
    obtain ⟨p, hp_⟩ : ∃ x, x = gd ps i := ⟨_, rfl⟩
    rw [← hp_] at hgi
    clear hp_
    have hgr : (ps.map ptC)[i]? = some (ptC p) := zU hgi
    have hp32 := p.1.2
    have hp33 := ptC_len p
    have hpm := hp p (List.mem_of_getElem? hgi)
    refine z8 (yI (i := i) rfl x7 sz51 rfl rfl qM jR qG (fun b30 o30 => ?_))
    refine zp rfl ag51 rfl (x8 qM hp33) ?_
    refine zL rfl ze51 (fun b4 => ?_)
    refine zE ag51 rfl rfl qL qO qU qW ?_
    refine z7 (y1 (A := cl b4 51 (ptC p)) qP ?_)
    refine z4 (z6 (z6 (z8 (zj rfl fo51_1 rfl ?_))))
    refine zh rfl sc3 rfl qC ?_
    refine zQ rfl rfl rfl (z7 (z4 (zo rfl (fun h34 => ?_) (fun h34 => ?_))))
    ·try simp only [dq] at h34
     exact z6 (z8 (z9 rfl rfl (z7 (z4 (zi (zD (y3 (zD (zD (y3 (zD (zz rfl rfl ⟨by rw [chkN_b hk1 jO hno hgi (by rw [badP_2 jO]; decide), badP_2 jO], rfl, rfl⟩ qD qF))))))))))))
    ·try simp only [dq] at h34
     refine zm (z4 (z6 ?_))
     have hk18 : 1 ≤ k ∧ k ≤ 1000 := by omega
     refine yC qk qk (zj rfl fo51_1 rfl ?_)
     refine zh rfl sc3 rfl qC ?_
     refine zj rfl fo49_0 rfl ?_
     refine zh rfl sc3 rfl qC ?_
     refine zW rfl (ev1 rfl) qD qS (most_spec (k := k) hk18) jF ?_
     refine yB rfl rfl rfl (yA (z4 (zo rfl (fun h40 => ?_) (fun h40 => ?_))))
     ·try simp only [dq] at h40
      exact z6 (z8 (z9 rfl rfl (z7 (z4 (zi (y3 (zD (zD (y3 (zD (zz rfl rfl ⟨by rw [chkN_b hk1 jO hno hgi (by rw [badP_5 jO jO]; decide), badP_5 jO jO], rfl, rfl⟩ qD qF)))))))))))
     ·try simp only [dq] at h40
      refine zm (zI (z4 (z8 (zH rfl rfl rfl jO ?_))))
      exact z5 rfl rfl (z7 (z4 (zM ⟨i + 1, ⟨by omega, bad_snoc hgi hno (badP_0 jO jO)⟩, rfl, rfl, rfl, rfl⟩ qI (.c 28 rfl <| za _) (.c 1 rfl <| .c 26 rfl <| .c 27 rfl <| za _) qD qD qF)))
   ·try simp only [dq] at h29
    obtain rfl : n = i := by omega
    rw [List.take_of_length_le jO] at hno
    have hcs := chkN_s hk1 jO hno
    refine zR (zq (zq (zS (z4 (z6 (z6 (z8 (zp rfl ag49 rfl qN ?_))))))))
    refine zW rfl (ev1 rfl) qD qS (nsize_spec (k := k) (ps := ps) hn hp) jF ?_
    refine yB rfl rfl rfl (z7 (z4 (zo rfl (fun h44 => ?_) (fun h44 => ?_))))
    ·try simp only [dq] at h44
     exact z6 (z8 (z9 rfl rfl (z7 (z4 (zi (zD (zz rfl rfl ⟨by rw [hcs, if_pos jO], rfl, rfl⟩ qD qF)))))))
    ·try simp only [dq] at h44
     exact zm (z4 (z6 (z8 (z9 rfl rfl (z7 (z4 (zi (zz rfl rfl ⟨by rw [hcs, if_neg jO], rfl, rfl⟩ qD qF))))))))
theorem nparse_spec {s : List UInt8} (hs : s.length ≤ 1000000000) : Spec Tryz.prog 88 [S s] [] [] (fun v D' M' => ∃ (a' : Option Addr) (n' c' : Nat), v = .tuple #[.agg #[.int .i64 ((nodR s).1 : Nat), .slice a' n' c'], .int .i64 (nodR s).2.2] ∧ ((nodR s).2.1.length = n') ∧ D' = [rsl 33 a' n' c' ((nodR s).2.1.map ptC)] ∧ M' = []) := by
 refine zC (n := 50) Tryz.func88 ?_
 intro σ D M
 obtain ⟨z1, h1⟩ : ∃ z, z = intR ⟨s, 0⟩ 8 := ⟨_, rfl⟩
 obtain ⟨z2, h2⟩ : ∃ z, z = intR z1.2 8 := ⟨_, rfl⟩
 obtain ⟨z3, h3⟩ : ∃ z, z = ptsL z2.1 z2.2 := ⟨_, rfl⟩
 have hP : nodR s = (if closeE z3.2 ≠ 0 then (0, [], closeE z3.2) else if chkN z1.1 z3.1 ≠ 0 then (0, [], chkN z1.1 z3.1) else (z1.1, z3.1, 0)) := by rw [h3, h2, h1]; rfl
 have hl1 := int_le ⟨s, 0⟩ 8
 rw [← h1] at hl1
 have hl2 := int_le z1.2 8
 rw [← h2] at hl2
 have hl3 := ptsL_len z2.1 z2.2
 rw [← h3] at hl3
 have hin := ptsL_in z2.1 z2.2
 rw [← h3] at hin
 refine z6 (z8 (zL rfl ze49 (fun b2 => ?_)))
 refine z9 rfl rfl (z7 (z4 (z6 (z8 (z5 rfl rfl (zx rfl (ev1 rfl) qD qS (bopen_spec) ?_))))))
 rintro _ _ _ ⟨bb, rfl, rfl, rfl⟩
 refine zt qA qA ?_
 refine z9 rfl rfl (z7 (z4 (z6 (z8 (z5 rfl rfl (zx rfl (ev2 rfl rfl) qD qS (bint_spec (b := ⟨s, 0⟩) (top := 8) jD) ?_))))))
 rintro _ _ _ ⟨rfl, rfl, rfl⟩
 refine zt qA qA ?_
 rw [← h1]
 refine yw rfl bu49 (zB rfl rfl rfl <| zO (out := [Value.slice none 0 0]) rfl) ?_
 refine zL rfl ze49 (fun b5 => ?_)
 refine zE ag49 rfl rfl qL qO qU qW ?_
 refine z7 (yF (sz := 33) (e := 51) ?_)
 refine zZ qP (show own 33 51 none 0 0 [] = own 33 51 none 0 0 ((([] : List Pt)).map ptC) from rfl) ?_
 refine z4 (z6 (z6 (z8 (z5 rfl rfl (zx rfl (ev2 rfl rfl) qD qS (bint_spec (b := z1.2) (top := 8) jD) ?_)))))
 rintro _ _ _ ⟨rfl, rfl, rfl⟩
 refine zt qA qA ?_
 rw [← h2]
 refine z9 rfl rfl (z7 (z4 (zr (zX (fun K' D' M' μ => ∃ (j n5 c5 : Nat) (a5 : Option Addr) (q : Bl) (acc : List Pt), (PtsI z2.2 z2.1 j q acc ∧ acc.length = n5) ∧ K' = [(6, .int .i64 (j : Int))] ∧ D' = [] ∧ M' = [cl bb 233 (blR (q)), cl b5 49 [.int .i64 ((z1.1 : Nat) : Int), .slice a5 n5 c5], own 33 51 a5 n5 c5 ((acc).map ptC)] ∧ μ = 2 * j) (.c 2 rfl <| .c 4 rfl <| .c 5 rfl <| za _) (⟨z2.1, 0, 0, none, z2.2, [], ⟨.start, rfl⟩, rfl, rfl, rfl, rfl⟩) (.c 6 rfl <| za _) qD qS ?_))))
 rintro K1 D1 M1 m1 ⟨j, n5, c5, a5, q, acc, ⟨hI, hac⟩, rfl, rfl, rfl, rfl⟩
 refine zF qA qA qA ?_
 have hIl := hI.len
 refine z6 (z6 (yu (fun K' D' M' => ∃ (w : Bool), (w = true ↔ (0 < j ∧ q.err = 0)) ∧ K' = [(23, .bool w)] ∧ D' = [] ∧ M' = [cl bb 233 (blR (q))]) (M0 := [cl bb 233 (blR (q))]) (.c 2 rfl <| .c 4 rfl <| .c 5 rfl <| .c 6 rfl <| za _) qS ?_ ?_))
 ·skip
  refine z8 (z5 rfl rfl (yB rfl rfl rfl (z5 rfl rfl (yM (t := 19) rfl (fun h1 => ?_) (fun h1 => ?_)))))
  ·try simp only [dq] at h1
   refine zf (dj := 19) rfl rfl rfl (z5 rfl rfl (zf (dj := 19) rfl rfl rfl (zx rfl (ev1 rfl) qD qS (berr_spec (b := q)) ?_)))
   rintro _ _ _ ⟨rfl, rfl, rfl⟩
   refine zt qA qA ?_
   exact zf (dj := 19) rfl rfl rfl (yj rfl rfl rfl (ye rfl rfl rfl (z7 (z4 (zK ⟨_, (by simp_all <;> omega), rfl, rfl, rfl⟩ (.c 23 rfl <| za _) (.c 2 rfl <| .c 4 rfl <| .c 5 rfl <| .c 6 rfl <| za _) qD qD qF)))))
  ·try simp only [dq] at h1
   exact zg (dj := 19) (c := false) rfl rfl rfl rfl rfl jD (zg (dj := 19) (c := false) rfl rfl rfl rfl rfl jD (zg (dj := 19) (c := false) rfl rfl rfl rfl rfl jD (y5 rfl rfl rfl (z7 (z4 (zK ⟨_, (by simp_all <;> omega), rfl, rfl, rfl⟩ (.c 23 rfl <| za _) (.c 2 rfl <| .c 4 rfl <| .c 5 rfl <| .c 6 rfl <| za _) qD qD qF))))))
 rintro _ _ _ ⟨w, hw, rfl, rfl, rfl⟩
 refine zF qA qA qA ?_
 refine z4 (zo rfl (fun h23 => ?_) (fun h23 => ?_))
 ·try simp only [dq] at h23
  have hwt := hw.1 h23
  refine zm (z4 (z6 (zr (z6 ?_))))
  obtain ⟨j2, rfl⟩ : ∃ j2, j = j2 + 1 := ⟨j - 1, by omega⟩
  have hqe : q.err = 0 := hwt.2
  have hi3 := zT (idR q).1
  have hi32 := (idR q).1.2
  have hil := int_le (idR q).2 32768
  refine z8 (z5 rfl rfl (zx rfl (ev1 rfl) qD qS (bid_spec (b := q)) ?_))
  rintro _ _ _ ⟨rfl, rfl, rfl⟩
  refine zt qA qA ?_
  refine zL rfl ze38 (fun b7 => ?_)
  refine zE zu rfl rfl qL qO qU qW ?_
  refine z7 (y1 (A := cl b7 38 (iC (idR q).1)) qP ?_)
  refine z4 (yt (clsL [1, 2, 1, 1, 2, 1, 2, 2, 1, 2]) qk ?_)
  refine ze 0 rfl rfl (zj rfl fo49_1 rfl ?_)
  refine zd (ze 2 rfl rfl (zp rfl zu rfl (CellsN.ofF qM (AtN.all hi3)) ?_))
  refine zd (ze 3 rfl rfl (z5 rfl rfl (zd (xg (is := [1, 4]) qk jD (yE rfl ?_ <| yE rfl ?_ <| xh) ))))
  ·skip
   refine zh rfl sc47 rfl qC ?_
   refine zw rfl qD ?_
   refine zy 4 rfl (zx rfl (ev2 rfl rfl) qD qS (bint_spec (b := (idR q).2) (top := 32768) jD) ?_)
   rintro _ _ _ ⟨rfl, rfl, rfl⟩
   refine zt qA qA ?_
   refine zw rfl qD ?_
   refine ze 5 rfl rfl (yw rfl bu51 (yQ rfl rfl (by first | with_reducible assumption | (simp; done) | (simp only [List.length_map]; with_reducible assumption) | (simp [*]; done) | rfl) (Nat.le_of_ble_eq_true rfl) qR <| zB rfl rfl rfl <| zO (out := []) rfl) ?_)
   refine zv (t := 33) (u := .agg (ptC ((idR q).1, ((intR (idR q).2 32768).1 : Int))).toArray) rfl (by first | rfl | simp) ?_
   refine zd (zy 6 rfl (yh rfl bs47 jD (yQ rfl rfl (by first | with_reducible assumption | (simp; done) | (simp only [List.length_map]; with_reducible assumption) | (simp [*]; done) | rfl) (Nat.le_of_ble_eq_true rfl) qR <| zO (out := []) rfl) (fun b34 => ?_)))
   refine zw rfl qD ?_
   refine zy 7 rfl (yR rfl x7 el51 rfl rfl qP qM (by rw [List.append_nil]; exact ptC_len _) (fun u hu => by rw [List.append_nil] at hu; exact one_pt u hu) qI qI (fun a35 c35 => ?_))
   refine zw rfl qD ?_
   refine ze 8 rfl rfl (zj rfl fo49_1 rfl ?_)
   refine zd (zy 9 rfl (yv sc47 rfl rfl rfl qU qE ?_))
   refine zw rfl qD ?_
   refine y6 qk ?_
   refine zI (z4 (z8 (z5 rfl rfl (y7 rfl rfl rfl jO ?_))))
   refine zv (t := 25) (u := .int .i64 (j2 : Int)) rfl (congrArg (Value.int .i64) jO) ?_
   refine z9 rfl rfl (z7 (z4 (y4 _ ((acc ++ [((idR q).1, ((intR (idR q).2 32768).1 : Int))]).map ptC) qP (by rw [List.map_append, List.append_nil]; rfl) ?_)))
   exact zM ⟨j2, n5 + 1, _, _, (intR (idR q).2 32768).2, acc ++ [((idR q).1, ((intR (idR q).2 32768).1 : Int))], ⟨hI.next hqe, by rw [List.length_append, hac]; rfl⟩, rfl, rfl, rfl, rfl⟩ qI (.c 6 rfl <| za _) (.c 2 rfl <| .c 4 rfl <| .c 5 rfl <| za _) qD qD qF
  ·skip
   refine zx rfl (ev2 rfl rfl) qD qS (bint_spec (b := (idR q).2) (top := 32768) jD) ?_
   rintro _ _ _ ⟨rfl, rfl, rfl⟩
   refine zt qA qA ?_
   refine zw rfl qD ?_
   refine ze 5 rfl rfl (yw rfl bu51 (yQ rfl rfl (by first | with_reducible assumption | (simp; done) | (simp only [List.length_map]; with_reducible assumption) | (simp [*]; done) | rfl) (Nat.le_of_ble_eq_true rfl) qR <| zB rfl rfl rfl <| zO (out := []) rfl) ?_)
   refine zv (t := 33) (u := .agg (ptC ((idR q).1, ((intR (idR q).2 32768).1 : Int))).toArray) rfl (by first | rfl | simp) ?_
   refine zd (xg (is := [1, 6]) qk jD (yE rfl ?_ <| yE rfl ?_ <| xh) )
   ·skip
    refine zh rfl sc47 rfl qC ?_
    refine zw rfl qD ?_
    refine zy 6 rfl (yh rfl bs47 jD (yQ rfl rfl (by first | with_reducible assumption | (simp; done) | (simp only [List.length_map]; with_reducible assumption) | (simp [*]; done) | rfl) (Nat.le_of_ble_eq_true rfl) qR <| zO (out := []) rfl) (fun b34 => ?_))
    refine zw rfl qD ?_
    refine zy 7 rfl (yR rfl x7 el51 rfl rfl qP qM (by rw [List.append_nil]; exact ptC_len _) (fun u hu => by rw [List.append_nil] at hu; exact one_pt u hu) qI qI (fun a35 c35 => ?_))
    refine zw rfl qD ?_
    refine ze 8 rfl rfl (zj rfl fo49_1 rfl ?_)
    refine zd (zy 9 rfl (yv sc47 rfl rfl rfl qU qE ?_))
    refine zw rfl qD ?_
    refine y6 qk ?_
    refine zI (z4 (z8 (z5 rfl rfl (y7 rfl rfl rfl jO ?_))))
    refine zv (t := 25) (u := .int .i64 (j2 : Int)) rfl (congrArg (Value.int .i64) jO) ?_
    refine z9 rfl rfl (z7 (z4 (y4 _ ((acc ++ [((idR q).1, ((intR (idR q).2 32768).1 : Int))]).map ptC) qP (by rw [List.map_append, List.append_nil]; rfl) ?_)))
    exact zM ⟨j2, n5 + 1, _, _, (intR (idR q).2 32768).2, acc ++ [((idR q).1, ((intR (idR q).2 32768).1 : Int))], ⟨hI.next hqe, by rw [List.length_append, hac]; rfl⟩, rfl, rfl, rfl, rfl⟩ qI (.c 6 rfl <| za _) (.c 2 rfl <| .c 4 rfl <| .c 5 rfl <| za _) qD qD qF
   ·skip
    refine yh rfl bs47 jD (yQ rfl rfl (by first | with_reducible assumption | (simp; done) | (simp only [List.length_map]; with_reducible assumption) | (simp [*]; done) | rfl) (Nat.le_of_ble_eq_true rfl) qR <| zO (out := []) rfl) (fun b34 => ?_)
    refine zw rfl qD ?_
    refine zy 1 rfl (zh rfl sc47 rfl qC ?_)
    refine zw rfl qD ?_
    refine zy 7 rfl (yR rfl x7 el51 rfl rfl qP qM (by rw [List.append_nil]; exact ptC_len _) (fun u hu => by rw [List.append_nil] at hu; exact one_pt u hu) qI qI (fun a35 c35 => ?_))
    refine zw rfl qD ?_
    refine ze 8 rfl rfl (zj rfl fo49_1 rfl ?_)
    refine zd (zy 9 rfl (yv sc47 rfl rfl rfl qU qE ?_))
    refine zw rfl qD ?_
    refine y6 qk ?_
    refine zI (z4 (z8 (z5 rfl rfl (y7 rfl rfl rfl jO ?_))))
    refine zv (t := 25) (u := .int .i64 (j2 : Int)) rfl (congrArg (Value.int .i64) jO) ?_
    refine z9 rfl rfl (z7 (z4 (y4 _ ((acc ++ [((idR q).1, ((intR (idR q).2 32768).1 : Int))]).map ptC) qP (by rw [List.map_append, List.append_nil]; rfl) ?_)))
    exact zM ⟨j2, n5 + 1, _, _, (intR (idR q).2 32768).2, acc ++ [((idR q).1, ((intR (idR q).2 32768).1 : Int))], ⟨hI.next hqe, by rw [List.length_append, hac]; rfl⟩, rfl, rfl, rfl, rfl⟩ qI (.c 6 rfl <| za _) (.c 2 rfl <| .c 4 rfl <| .c 5 rfl <| za _) qD qD qF
 ·try simp only [dq] at h23
  have hwf : ¬ (0 < j ∧ q.err = 0) := fun e => by have := hw.2 e; rw [h23] at this; cases this
  refine zR (zq (zq (zS (z4 (z6 (z6 ?_))))))
  have hst := hI.stop (z_or hwf)
  rw [← h3] at hst
  subst hst
  have hac8 : acc.length ≤ 8 := Nat.le_trans hl3 hl2
  refine z8 (z5 rfl rfl (zx rfl (ev1 rfl) qD qS (bclose_spec (b := q)) ?_))
  rintro _ _ _ ⟨rfl, rfl, rfl⟩
  refine zt qA qA ?_
  refine z9 rfl rfl (z7 (yD (rows := acc.map ptC) qP ?_))
  refine z4 (z6 (z8 (z5 rfl rfl (yx rfl rfl rfl (z7 (z4 (zo rfl (fun h40 => ?_) (fun h40 => ?_))))))))
  ·try simp only [dq] at h40
   refine z6 (z8 (yw rfl bu49 (zO (out := [Value.int .i64 0, Value.slice none 0 0]) rfl) ?_))
   refine z5 rfl rfl (zE ag49 rfl rfl qL qO qU qW ?_)
   refine z9 rfl rfl (z7 (yF (sz := 33) (e := 51) ?_))
   refine zZ qP (show own 33 51 none 0 0 [] = own 33 51 none 0 0 ((([] : List Pt)).map ptC) from rfl) ?_
   refine yD (rows := ([] : List Pt).map ptC) qP ?_
   refine z4 (zi (zD ?_))
   rw [if_pos h40] at hP
   rw [hP]
   exact yN rfl ag49 rfl qN rfl ⟨none, 0, 0, rfl, rfl, rfl, rfl⟩ qD qF
  ·try simp only [dq] at h40
   refine zm (z4 (z6 (z6 (z8 (zp rfl ag49 rfl qN ?_)))))
   refine zW rfl (ev1 rfl) qD qS (ncheck_spec (k := z1.1) (ps := acc) jO (fun p hp => ⟨(hin p hp).1, Int.le_trans (hin p hp).2 jD⟩)) jF ?_
   refine z9 rfl rfl (z7 (z4 (z6 (z8 (z5 rfl rfl (yx rfl rfl rfl (z7 (z4 (zo rfl (fun h46 => ?_) (fun h46 => ?_))))))))))
   ·try simp only [dq] at h46
    refine z6 (z8 (yw rfl bu49 (zO (out := [Value.int .i64 0, Value.slice none 0 0]) rfl) ?_))
    refine z5 rfl rfl (zE ag49 rfl rfl qL qO qU qW ?_)
    refine z9 rfl rfl (z7 (yF (sz := 33) (e := 51) ?_))
    refine zZ qP (show own 33 51 none 0 0 [] = own 33 51 none 0 0 ((([] : List Pt)).map ptC) from rfl) ?_
    refine yD (rows := ([] : List Pt).map ptC) qP ?_
    refine z4 (zi (zD ?_))
    rw [if_neg h40, if_pos h46] at hP
    rw [hP]
    exact yN rfl ag49 rfl qN rfl ⟨none, 0, 0, rfl, rfl, rfl, rfl⟩ qD qF
   ·try simp only [dq] at h46
    refine zm (z4 (z6 (z8 (zp rfl ag49 rfl qN ?_))))
    refine zE ag49 rfl rfl qL qO qU qW ?_
    refine z9 rfl rfl (z7 (z4 (zi ?_)))
    rw [if_neg h40, if_neg h46] at hP
    rw [hP]
    exact yN rfl ag49 rfl qN rfl ⟨_, _, _, rfl, hac, rfl, rfl⟩ qD qF
end Cv
set_option maxRecDepth 10000
namespace Cv
open Go Go.Proofs
/-! ## objects on a shelf: the plain model -/
def zOb : Ob := (0, zID, [])
def goF : List Ob → ID32 → Option Ob
  | [], _ => none
  | o :: l, x => if o.2.1 = x then some o else goF l x
def getO (os : List Ob) (x : ID32) : Ob := (goF os x).getD zOb
def getE (os : List Ob) (x : ID32) : Int := if (goF os x).isSome then 0 else 7
theorem goF_hit {x : ID32} {o : Ob} : ∀ {os : List Ob} {i : Nat}, (∀ y ∈ os.take i, y.2.1 ≠ x) → os[i]? = some o → o.2.1 = x → goF os x = some o
  | [], _, _, h, _ => by simp at h
  | q :: os, 0, _, h, e => by
    obtain rfl : q = o := by simpa using h
    rw [goF, if_pos e]
  | q :: os, i + 1, hn, h, e => by
    rw [goF, if_neg (hn q (by simp))]
    exact goF_hit (i := i) (fun y hy => hn y (by rw [List.take_succ_cons]; exact List.mem_cons_of_mem _ hy)) (by simpa using h) e
theorem goF_miss {x : ID32} : ∀ {os : List Ob}, (∀ y ∈ os, y.2.1 ≠ x) → goF os x = none
  | [], _ => rfl
  | q :: os, h => by rw [goF, if_neg (h q (by simp))]; exact goF_miss fun y hy => h y (by simp [hy])
theorem goF_mem {x : ID32} {o : Ob} : ∀ {os : List Ob}, goF os x = some o → o ∈ os ∧ o.2.1 = x
  | [], h => by cases h
  | q :: os, h => by
    rw [goF] at h
    split at h
    · rename_i e; injection h with h; subst h; exact ⟨by simp, e⟩
    · exact ⟨List.mem_cons_of_mem _ (goF_mem h).1, (goF_mem h).2⟩
theorem go_snoc {x : ID32} {i : Nat} {os : List Ob} {o : Ob} (h : os[i]? = some o) (hn : ∀ y ∈ os.take i, y.2.1 ≠ x) (e : o.2.1 ≠ x) : ∀ y ∈ os.take (i + 1), y.2.1 ≠ x := fun y hy => by
  rw [List.take_add_one, h] at hy
  rcases List.mem_append.1 hy with q | q
  · exact hn y q
  · obtain rfl : y = o := by simpa using q
    exact e
theorem getO_hit {os : List Ob} {x : ID32} {o : Ob} (h : goF os x = some o) : getO os x = o := by unfold getO; rw [h]; rfl
theorem getE_hit {os : List Ob} {x : ID32} {o : Ob} (h : goF os x = some o) : getE os x = 0 := by unfold getE; rw [h]; rfl
theorem getO_miss {os : List Ob} {x : ID32} (h : goF os x = none) : getO os x = zOb := by unfold getO; rw [h]; rfl
theorem getE_miss {os : List Ob} {x : ID32} (h : goF os x = none) : getE os x = 7 := by unfold getE; rw [h]; rfl
theorem getE_0 {os : List Ob} {x : ID32} (h : getE os x = 0) : goF os x = some (getO os x) := by
  unfold getE at h
  unfold getO
  cases e : goF os x with
  | none => rw [e] at h; exact absurd h (by decide)
  | some o => rfl
theorem getE_7 {os : List Ob} {x : ID32} (h : getE os x ≠ 0) : goF os x = none := by
  unfold getE at h
  cases e : goF os x with
  | none => rfl
  | some o => rw [e] at h; exact absurd rfl h
def Shf (os : List Ob) : Prop := ∀ o ∈ os, o.2.2.length ≤ 1000000
theorem Shf.get {os : List Ob} (h : Shf os) (x : ID32) : (getO os x).2.2.length ≤ 1000000 := by
  unfold getO
  cases e : goF os x with
  | none => exact Nat.zero_le _
  | some o => exact h o (goF_mem e).1
def lkR (os : List Ob) (x : ID32) : Pt × List ID32 × Bool :=
  match goF os x with
  | none => (zP, [], false)
  | some o => if o.1 = 3 then ((parI o.2.2).1, (parI o.2.2).2.1, decide ((parI o.2.2).2.2 = 0)) else (zP, [], false)
theorem lkR_no {os : List Ob} {x : ID32} (h : getE os x ≠ 0 ∨ (getO os x).1 ≠ 3) : lkR os x = (zP, [], false) := by
  unfold lkR
  cases e : goF os x with
  | none => rfl
  | some o =>
    rw [getE_hit e, getO_hit e] at h
    exact if_neg (h.resolve_left fun q => q rfl)
theorem lkR_yes {os : List Ob} {x : ID32} (h : getE os x = 0) (h3 : (getO os x).1 = 3) : lkR os x = ((parI (getO os x).2.2).1, (parI (getO os x).2.2).2.1, decide ((parI (getO os x).2.2).2.2 = 0)) := by
  have e := getE_0 h
  unfold lkR
  rw [e]
  exact if_pos h3
structure IxF (os : List Ob) (x : ID32) (k : Int) : Prop where
  no : k < 0 → goF os x = none
  yes : ¬ k < 0 → ∃ i o, k = ((i : Nat) : Int) ∧ os[i]? = some o ∧ goF os x = some o
  lo : -1 ≤ k
  hi : k < os.length

theorem get_spec {a : Option Addr} {n c : Nat} {os : List Ob} {x : ID32} (hn : n ≤ 1000000) : Spec Tryz.prog 31 [.agg #[.slice a n c], .agg (iC x).toArray] [rsl 34 a n c (os.map obC)] [] (fun v D' M' => v = .tuple #[.agg (obC (getO os x)).toArray, .int .i64 (getE os x)] ∧ D' = [] ∧ M' = []) := by
 refine zC (n := 22) Tryz.func31 ?_
 intro σ D M
 refine yH (rows := os.map obC) qM (fun hol hoc => ?_)
 rw [List.length_map] at hol
 have hx32 := x.2
 have hx3 := zT x
 
 refine z6 (z8 (yq rfl rfl rfl (fun b2 => ?_)))
 refine yq rfl rfl rfl (fun b3 => ?_)
 refine zL rfl ze45 (fun b4 => ?_)
 refine z9 rfl rfl (z7 (y1 (A := cl b2 26 [.slice a n c]) qP ?_))
 refine y1 (A := cl b3 38 (iC x)) qP ?_
 refine z4 (z6 (z6 (z8 (zj rfl fo26_0 rfl ?_))))
 refine zh rfl sc24 rfl qC ?_
 refine y2 rfl x9 rfl (z5 rfl rfl (z7 (z4 (zr (zX (fun K' D' M' μ => ∃ (i : Nat), (i ≤ n ∧ ∀ y ∈ os.take i, y.2.1 ≠ x) ∧ K' = [(11, .int .i64 (i : Int))] ∧ D' = [] ∧ M' = [] ∧ μ = n - i) (.c 3 rfl <| .c 4 rfl <| .c 9 rfl <| .c 10 rfl <| za _) (⟨0, ⟨Nat.zero_le _, by simp⟩, rfl, rfl, rfl, rfl⟩) (.c 11 rfl <| za _) qD qS ?_)))))
 rintro K1 D1 M1 m1 ⟨i, ⟨hi, hno⟩, rfl, rfl, rfl, rfl⟩
 refine zF qA qA qA ?_
 refine z6 (z8 (zQ rfl rfl rfl (z7 (z4 (z6 (zo rfl (fun h12 => ?_) (fun h12 => ?_)))))))
 ·try simp only [dq] at h12
  refine zm (z4 (z6 (zr (z6 ?_))))
  have hgi : os[i]? = some (gd os i) := zJ jO
  obtain ⟨o, ho_⟩ : ∃ z, z = gd os i := ⟨_, rfl⟩
  rw [← ho_] at hgi
  clear ho_
  have hgr : (os.map obC)[i]? = some (obC o) := zU hgi
  have ho32 := o.2.1.2
  have ho33 := obC_len o
  refine z8 (yI (i := i) rfl x9 sz45 rfl rfl qM jR qG (fun b13 o13 => ?_))
  refine zp rfl ag45 rfl (x8 qM ho33) ?_
  refine zL rfl ze45 (fun b7 => ?_)
  refine zE ag45 rfl rfl qL qO qU qW ?_
  refine z7 (y1 (A := cl b7 45 (obC o)) qP ?_)
  refine z4 (z6 (z8 (zj rfl fo45_1 rfl ?_)))
  refine zp rfl zu rfl qN ?_
  refine zp rfl zu rfl qN ?_
  refine L.eqlArrI qk rfl yf zY sc5 rfl rfl qL qL ?_
  refine z7 (z4 (zo rfl (fun h18 => ?_) (fun h18 => ?_)))
  ·try simp only [dq] at h18
   have hoe : o.2.1 = x := Subtype.ext h18
   have hgo := goF_hit hno hgi hoe
   refine z6 (z8 (zp rfl ag45 rfl qN ?_))
   refine zE ag45 rfl rfl qL qO qU qW ?_
   refine z9 rfl rfl (z7 (z4 (zi (y3 (zD (zD (y3 (zD ?_))))))))
   rw [getO_hit hgo, getE_hit hgo]
   exact yN rfl ag45 rfl qN rfl ⟨rfl, rfl, rfl⟩ qD qF
  ·try simp only [dq] at h18
   refine zm (zI (z4 (z8 (zH rfl rfl rfl jO ?_))))
   exact z5 rfl rfl (z7 (z4 (zM ⟨i + 1, ⟨by omega, go_snoc hgi hno (fun e => h18 (by rw [e]))⟩, rfl, rfl, rfl, rfl⟩ qI (.c 11 rfl <| za _) (.c 3 rfl <| .c 4 rfl <| .c 9 rfl <| .c 10 rfl <| za _) qD qD qF)))
 ·try simp only [dq] at h12
  obtain rfl : n = i := by omega
  rw [List.take_of_length_le jO] at hno
  have hgo := goF_miss hno
  refine zR (zq (zq (zS (z4 (z6 (z8 (yw rfl bu45 (zO (out := (Value.int .i64 0 :: .int .u8 0 :: .int .u8 0 :: .int .u8 0 :: .int .u8 0 :: .int .u8 0 :: .int .u8 0 :: .int .u8 0 :: .int .u8 0 :: .int .u8 0 :: .int .u8 0 :: .int .u8 0 :: .int .u8 0 :: .int .u8 0 :: .int .u8 0 :: .int .u8 0 :: .int .u8 0 :: .int .u8 0 :: .int .u8 0 :: .int .u8 0 :: .int .u8 0 :: .int .u8 0 :: .int .u8 0 :: .int .u8 0 :: .int .u8 0 :: .int .u8 0 :: .int .u8 0 :: .int .u8 0 :: .int .u8 0 :: .int .u8 0 :: .int .u8 0 :: .int .u8 0 :: .int .u8 0 :: S [] :: [])) rfl) ?_)))))))
  refine zE ag45 rfl rfl qL qO qU qW ?_
  refine z9 rfl rfl (z7 (z4 (zi ?_)))
  rw [getO_miss hgo, getE_miss hgo]
  exact yN rfl ag45 rfl qN rfl ⟨rfl, rfl, rfl⟩ qD qF
theorem mthG {v : Value} : Mth Tryz.prog 26 v "Get" 31 v := fun w => by kernel_rfl
theorem look_spec {a : Option Addr} {n c : Nat} {os : List Ob} {x : ID32} (hn : n ≤ 1000000) (hs : Shf os) : Spec Tryz.prog 52 [.iface 26 (.agg #[.slice a n c]), .agg (iC x).toArray] [rsl 34 a n c (os.map obC)] [] (fun v D' M' => ∃ (a' : Option Addr) (n' c' : Nat), v = .tuple #[.agg (inC (lkR os x).1 a' n' c').toArray, .bool (lkR os x).2.2] ∧ ((lkR os x).2.1.length = n') ∧ D' = [rsl 32 a' n' c' ((lkR os x).2.1.map iC)] ∧ M' = []) := by
 refine zC (n := 32) Tryz.func52 ?_
 intro σ D M
 have hx32 := x.2
 have hx3 := zT x
 refine z6 (z8 (yq rfl rfl rfl (fun b3 => ?_)))
 refine zL rfl ze54 (fun b4 => ?_)
 refine z9 rfl rfl (z7 (z4 (z6 (z8 (z5 rfl rfl (zp rfl zu rfl qN ?_))))))
 refine L.inv rfl rfl mthG (ev1 rfl) qD qS (get_spec (os := os) (x := x) hn) ?_
 rintro _ _ _ ⟨rfl, rfl, rfl⟩
 refine zt qA qA ?_
 obtain ⟨o, ho⟩ : ∃ o, o = getO os x := ⟨_, rfl⟩
 obtain ⟨e, he⟩ : ∃ e, e = getE os x := ⟨_, rfl⟩
 have hos := hs.get x
 rw [← ho] at hos ⊢
 rw [← he]
 have ho33 := obC_len o
 have ho32 := o.2.1.2
 refine z5 rfl rfl (zG rfl rfl rfl (zG rfl rfl rfl (zL rfl ze45 (fun b6 => ?_))))
 refine zE ag45 rfl rfl qL qO qU qW ?_
 refine z9 rfl rfl (z7 (y1 (A := cl b6 45 (obC o)) qP ?_))
 refine z4 (z6 (z6 (z8 (z5 rfl rfl (yx rfl rfl rfl (z5 rfl rfl (yM (t := 17) rfl (fun h1 => ?_) (fun h1 => ?_))))))))
 ·try simp only [dq] at h1
  refine zg (dj := 17) (c := true) rfl rfl rfl rfl rfl jD (zg (dj := 17) (c := true) rfl rfl rfl rfl rfl jD (zg (dj := 17) (c := true) rfl rfl rfl rfl rfl jD (ye rfl rfl rfl (z7 (z4 (xk rfl rfl ?_))))))
  refine z6 (z8 (yw rfl bu54 (zO (out := (Value.int .u8 0 :: .int .u8 0 :: .int .u8 0 :: .int .u8 0 :: .int .u8 0 :: .int .u8 0 :: .int .u8 0 :: .int .u8 0 :: .int .u8 0 :: .int .u8 0 :: .int .u8 0 :: .int .u8 0 :: .int .u8 0 :: .int .u8 0 :: .int .u8 0 :: .int .u8 0 :: .int .u8 0 :: .int .u8 0 :: .int .u8 0 :: .int .u8 0 :: .int .u8 0 :: .int .u8 0 :: .int .u8 0 :: .int .u8 0 :: .int .u8 0 :: .int .u8 0 :: .int .u8 0 :: .int .u8 0 :: .int .u8 0 :: .int .u8 0 :: .int .u8 0 :: .int .u8 0 :: .int .i64 0 :: Value.slice none 0 0 :: [])) rfl) ?_))
  refine zE y9 rfl rfl qL qO qU qW ?_
  refine z9 rfl rfl (z7 (yF (sz := 32) (e := 38) ?_))
  refine zZ qP (show own 32 38 none 0 0 [] = own 32 38 none 0 0 (([] : List ID32).map iC) from rfl) ?_
  refine yD (rows := ([] : List ID32).map iC) qP ?_
  refine z4 (zi (zD ?_))
  rw [lkR_no (.inl (by rw [← he]; exact h1))]
  exact yN rfl y9 rfl qN rfl ⟨none, 0, 0, rfl, rfl, rfl, rfl⟩ qD qF
 ·try simp only [dq] at h1
  refine zf (dj := 17) rfl rfl rfl (zj rfl fo45_0 rfl ?_)
  refine zf (dj := 17) rfl rfl rfl (zh rfl sc3 rfl qC ?_)
  refine zf (dj := 17) rfl rfl rfl (yx rfl rfl rfl (y5 rfl rfl rfl (z7 (z4 (zo rfl (fun h21 => ?_) (fun h21 => ?_))))))
  ·try simp only [dq] at h21
   refine z6 (z8 (yw rfl bu54 (zO (out := (Value.int .u8 0 :: .int .u8 0 :: .int .u8 0 :: .int .u8 0 :: .int .u8 0 :: .int .u8 0 :: .int .u8 0 :: .int .u8 0 :: .int .u8 0 :: .int .u8 0 :: .int .u8 0 :: .int .u8 0 :: .int .u8 0 :: .int .u8 0 :: .int .u8 0 :: .int .u8 0 :: .int .u8 0 :: .int .u8 0 :: .int .u8 0 :: .int .u8 0 :: .int .u8 0 :: .int .u8 0 :: .int .u8 0 :: .int .u8 0 :: .int .u8 0 :: .int .u8 0 :: .int .u8 0 :: .int .u8 0 :: .int .u8 0 :: .int .u8 0 :: .int .u8 0 :: .int .u8 0 :: .int .i64 0 :: Value.slice none 0 0 :: [])) rfl) ?_))
   refine zE y9 rfl rfl qL qO qU qW ?_
   refine z9 rfl rfl (z7 (yF (sz := 32) (e := 38) ?_))
   refine zZ qP (show own 32 38 none 0 0 [] = own 32 38 none 0 0 (([] : List ID32).map iC) from rfl) ?_
   refine yD (rows := ([] : List ID32).map iC) qP ?_
   refine z4 (zi (zD ?_))
   rw [lkR_no (.inr (by rw [← ho]; exact h21))]
   exact yN rfl y9 rfl qN rfl ⟨none, 0, 0, rfl, rfl, rfl, rfl⟩ qD qF
  ·try simp only [dq] at h21
   refine zm (z4 (z6 (z8 (zj rfl fo45_2 rfl ?_))))
   refine zh rfl sc9 rfl qC ?_
   refine zx rfl (ev1 rfl) qD qS (iparse_spec (s := o.2.2) jO) ?_
   rintro _ _ _ ⟨qa, qn, qc, rfl, hqn, rfl, rfl⟩
   refine zt qA qA ?_
   obtain ⟨W, hW⟩ : ∃ z, z = parI o.2.2 := ⟨_, rfl⟩
   rw [← hW] at hqn ⊢
   have hin := inC_len W.1 qa qn qc
   refine z5 rfl rfl (zG rfl rfl rfl (zG rfl rfl rfl (zL rfl ze54 (fun b8 => ?_))))
   refine zE y9 rfl rfl qL qO qU qW ?_
   refine z9 rfl rfl (z7 (y1 (A := cl b8 54 (inC W.1 qa qn qc)) qP ?_))
   refine z4 (z6 (z8 (zp rfl y9 rfl qN ?_)))
   refine z5 rfl rfl (yj rfl rfl rfl (zE y9 rfl rfl qL qO qU qW ?_))
   refine z9 rfl rfl (z7 (z4 (zi ?_)))
   rw [lkR_yes (by rw [← he]; exact Decidable.not_not.1 h1) (by rw [← ho]; exact Decidable.not_not.1 h21), ← ho, ← hW]
   exact yN rfl y9 rfl qN rfl ⟨_, _, _, rfl, hqn, rfl, rfl⟩ qD qF
end Cv
set_option maxRecDepth 10000
namespace Cv
open Go Go.Proofs
theorem IxF.hit {os : List Ob} {x : ID32} {i : Nat} {o : Ob} (h : os[i]? = some o) (g : goF os x = some o) : IxF os x (i : Int) where
  no e := by omega
  yes _ := ⟨i, o, rfl, h, g⟩
  lo := by omega
  hi := by have := (List.getElem?_eq_some_iff.1 h).1; omega
theorem IxF.miss {os : List Ob} {x : ID32} (g : goF os x = none) : IxF os x (-1) where
  no _ := g
  yes e := by omega
  lo := by omega
  hi := by omega
theorem in_snoc {l : List (List UInt8)} {i : Nat} {o s : List UInt8} (h : l[i]? = some o) (hn : s ∉ l.take i) (e : ¬ o = s) : s ∉ l.take (i + 1) := fun k => by
  rw [List.take_add_one, h] at k
  rcases List.mem_append.1 k with q | q
  · exact hn q
  · exact e (by simpa [eq_comm] using q)

theorem rget_spec {a : Option Addr} {n c : Nat} {os : List Ob} {x : ID32} (hn : n ≤ 1000000) : Spec Tryz.prog 62 [.slice a n c, S x.1] [rsl 3 a n c (os.map obR)] [] (fun v D' M' => ∃ (k : Int), v = .int .i64 k ∧ (IxF os x k) ∧ D' = [] ∧ M' = []) := by
 refine zC (n := 20) Tryz.func62 ?_
 intro σ D M
 refine yH (rows := os.map obR) qM (fun hol hoc => ?_)
 rw [List.length_map] at hol
 
 refine z6 (z8 (z9 rfl rfl (z7 (z4 (z6 (z6 (z8 (z5 rfl rfl (y2 rfl xI rfl (z5 rfl rfl (z7 (z4 (zr (zX (fun K' D' M' μ => ∃ (i : Nat), (i ≤ n ∧ ∀ y ∈ os.take i, y.2.1 ≠ x) ∧ K' = [(9, .int .i64 (i : Int))] ∧ D' = [] ∧ M' = [] ∧ μ = n - i) (.c 1 rfl <| .c 7 rfl <| .c 8 rfl <| za _) (⟨0, ⟨Nat.zero_le _, by simp⟩, rfl, rfl, rfl, rfl⟩) (.c 9 rfl <| za _) qD qS ?_))))))))))))))
 rintro K1 D1 M1 m1 ⟨i, ⟨hi, hno⟩, rfl, rfl, rfl, rfl⟩
 refine zF qA qA qA ?_
 refine z6 (z8 (zQ rfl rfl rfl (z7 (z4 (z6 (zo rfl (fun h10 => ?_) (fun h10 => ?_)))))))
 ·try simp only [dq] at h10
  refine zm (z4 (z6 (zr (z6 ?_))))
  have hgi : os[i]? = some (gd os i) := zJ jO
  obtain ⟨o, ho_⟩ : ∃ z, z = gd os i := ⟨_, rfl⟩
  rw [← ho_] at hgi
  clear ho_
  have hgr : (os.map obR)[i]? = some (obR o) := zU hgi
  have ho32 := o.2.1.2
  have ho33 := obC_len o
  refine z8 (z5 rfl rfl (yI (i := i) rfl xI sz118 rfl rfl qM jR qG (fun b12 o12 => ?_)))
  refine zp rfl ag118 rfl (x8 qM (obR_len _)) ?_
  refine zL rfl ze118 (fun b6 => ?_)
  refine z9 rfl rfl (zE ag118 rfl rfl qL qO qU qW ?_)
  refine z7 (y1 (A := cl b6 118 (obR o)) qP ?_)
  refine z4 (z6 (z8 (zj rfl fo118_1 rfl ?_)))
  refine zh rfl sc9 rfl qC ?_
  refine z5 rfl rfl (L.eqS rfl rfl rfl ?_)
  refine z7 (z4 (zo rfl (fun h17 => ?_) (fun h17 => ?_)))
  ·try simp only [dq] at h17
   have hgo := goF_hit hno hgi (Subtype.ext h17)
   exact z6 (z8 (z5 rfl rfl (z9 rfl rfl (z7 (z4 (zi (y3 (zD (zD (y3 (zD (zz rfl rfl ⟨_, rfl, .hit hgi hgo, rfl, rfl⟩ qD qF))))))))))))
  ·try simp only [dq] at h17
   refine zm (zI (z4 (z8 (zH rfl rfl rfl jO ?_))))
   exact z5 rfl rfl (z7 (z4 (zM ⟨i + 1, ⟨by omega, go_snoc hgi hno (fun e => h17 (by rw [e]))⟩, rfl, rfl, rfl, rfl⟩ qI (.c 9 rfl <| za _) (.c 1 rfl <| .c 7 rfl <| .c 8 rfl <| za _) qD qD qF)))
 ·try simp only [dq] at h10
  obtain rfl : n = i := by omega
  rw [List.take_of_length_le jO] at hno
  have hgo := goF_miss hno
  exact zR (zq (zq (zS (z4 (z6 (z8 (z9 rfl rfl (z7 (z4 (zi (zz rfl rfl ⟨_, rfl, .miss hgo, rfl, rfl⟩ qD qF)))))))))))
theorem rlook_spec {a : Option Addr} {n c : Nat} {os : List Ob} {x : ID32} (hn : n ≤ 1000000) (hs : Shf os) : Spec Tryz.prog 57 [.slice a n c, S x.1] [rsl 3 a n c (os.map obR)] [] (fun v D' M' => ∃ (a' : Option Addr) (n' c' : Nat) (cs : List Value), v = .tuple #[.agg cs.toArray, .bool (lkR os x).2.2] ∧ (cs.length = 3) ∧ ((∀ q ∈ cs, q.oneCell' = true)) ∧ ((lkR os x).2.1.length = n') ∧ (((lkR os x).2.2 = true → cs = inR (lkR os x).1 a' n' c')) ∧ D' = [] ∧ M' = [own 1 9 a' n' c' (((lkR os x).2.1.map (·.1)).map ys)]) := by
 refine zC (n := 35) Tryz.func57 ?_
 intro σ D M
 refine yH (rows := os.map obR) qM (fun hol hoc => ?_)
 rw [List.length_map] at hol
 
 refine z6 (z8 (zL rfl ze107 (fun b4 => ?_)))
 refine z9 rfl rfl (z7 (z4 (z6 (z8 (z5 rfl rfl (z5 rfl rfl (zx rfl (ev2 rfl rfl) qD qS (rget_spec (os := os) (x := x) hn) ?_)))))))
 rintro _ _ _ ⟨k, rfl, hk, rfl, rfl⟩
 refine zt qA qA ?_
 have hklo := hk.lo
 have hkhi := hk.hi
 refine z9 rfl rfl (z7 (z4 (z6 (z6 ?_))))
 rcases Int.lt_or_le k 0 with hk0 | hk0
 ·skip
  refine z8 (z5 rfl rfl (zQ rfl rfl rfl (z5 rfl rfl (zv (t := 14) rfl (show _ = Value.bool true from congrArg Value.bool (decide_eq_true hk0)) ?_))))
  refine zg (dj := 14) (c := true) rfl rfl rfl rfl rfl jD (zg (dj := 14) (c := true) rfl rfl rfl rfl rfl jD (zg (dj := 14) (c := true) rfl rfl rfl rfl rfl jD (zg (dj := 14) (c := true) rfl rfl rfl rfl rfl jD (zg (dj := 14) (c := true) rfl rfl rfl rfl rfl jD (zg (dj := 14) (c := true) rfl rfl rfl rfl rfl jD (ye rfl rfl rfl (z7 (z4 (xk rfl rfl ?_)))))))))
  refine z6 (z8 (yw rfl bu107 (zO (out := [S [], Value.int .i64 0, Value.slice none 0 0]) rfl) ?_))
  refine zE ag107 rfl rfl qL qO qU qW ?_
  refine z9 rfl rfl (z7 (yF (sz := 1) (e := 9) ?_))
  refine zZ qP (show own 1 9 none 0 0 [] = own 1 9 none 0 0 ((([] : List ID32).map (·.1)).map ys) from rfl) ?_
  refine z4 (zi (zD ?_))
  rw [lkR_no (.inl (by rw [getE_miss (hk.no hk0)]; decide))]
  exact yN rfl ag107 rfl qN rfl ⟨none, 0, 0, _, rfl, rfl, (by intro q hq; simp only [List.mem_cons, List.not_mem_nil, or_false] at hq; rcases hq with rfl | rfl | rfl <;> rfl), rfl, (fun q => Bool.noConfusion q), rfl, rfl⟩ qD qF
 ·skip
  obtain ⟨i, o, rfl, hgi, hgo⟩ := hk.yes jO
  have hgr : (os.map obR)[i]? = some (obR o) := zU hgi
  have hin : i < n := by rw [← hol]; exact (List.getElem?_eq_some_iff.1 hgi).1
  refine z8 (z5 rfl rfl (zQ rfl rfl rfl (z5 rfl rfl (zv (t := 14) rfl (show _ = Value.bool false from congrArg Value.bool (decide_eq_false jO)) ?_))))
  refine zf (dj := 14) rfl rfl rfl (z5 rfl rfl (zf (dj := 14) rfl rfl rfl (z5 rfl rfl (zf (dj := 14) rfl rfl rfl (yI (i := i) rfl xI sz118 rfl rfl qM jR qG (fun b17 o17 => ?_))))))
  refine zf (dj := 14) rfl rfl rfl (zj rfl fo118_0 rfl ?_)
  refine zf (dj := 14) rfl rfl rfl (zh rfl sc3 rfl qC ?_)
  refine zf (dj := 14) rfl rfl rfl (yx rfl rfl rfl (y5 rfl rfl rfl (z7 (z4 (zo rfl (fun h21 => ?_) (fun h21 => ?_))))))
  ·try simp only [dq] at h21
   refine z6 (z8 (yw rfl bu107 (zO (out := [S [], Value.int .i64 0, Value.slice none 0 0]) rfl) ?_))
   refine zE ag107 rfl rfl qL qO qU qW ?_
   refine z9 rfl rfl (z7 (yF (sz := 1) (e := 9) ?_))
   refine zZ qP (show own 1 9 none 0 0 [] = own 1 9 none 0 0 ((([] : List ID32).map (·.1)).map ys) from rfl) ?_
   refine z4 (zi (zD ?_))
   rw [lkR_no (.inr (by rw [getO_hit hgo]; exact h21))]
   exact yN rfl ag107 rfl qN rfl ⟨none, 0, 0, _, rfl, rfl, (by intro q hq; simp only [List.mem_cons, List.not_mem_nil, or_false] at hq; rcases hq with rfl | rfl | rfl <;> rfl), rfl, (fun q => Bool.noConfusion q), rfl, rfl⟩ qD qF
  ·try simp only [dq] at h21
   have hos := hs o (List.mem_of_getElem? hgi)
   have ho32 := o.2.1.2
   refine zm (z4 (z6 (z8 (z5 rfl rfl (z5 rfl rfl (yI (i := i) rfl xI sz118 rfl rfl qM jR qG (fun b26 o26 => ?_)))))))
   refine zj rfl fo118_2 rfl ?_
   refine zh rfl sc9 rfl qC ?_
   refine zx rfl (ev1 rfl) qD qS (rparse11_spec (s := o.2.2) jO) ?_
   rintro _ _ _ ⟨ra, rn, rc, cs, rfl, hcs, hco, hrn, hce, rfl, rfl⟩
   refine zt qA qA ?_
   obtain ⟨W, hW⟩ : ∃ z, z = parI o.2.2 := ⟨_, rfl⟩
   rw [← hW] at hrn hce ⊢
   refine z5 rfl rfl (zG rfl rfl rfl (zG rfl rfl rfl (zL rfl ze107 (fun b7 => ?_))))
   refine zE ag107 rfl rfl qL qO qU qW ?_
   refine z9 rfl rfl (z7 (z4 (z6 (z8 (zp rfl ag107 rfl qN ?_)))))
   refine z5 rfl rfl (yj rfl rfl rfl (zE ag107 rfl rfl qL qO qU qW ?_))
   refine z9 rfl rfl (z7 (z4 (zi ?_)))
   rw [lkR_yes (getE_hit hgo) (by rw [getO_hit hgo]; exact Decidable.not_not.1 h21), getO_hit hgo, ← hW]
   exact yN rfl ag107 rfl qN rfl ⟨_, _, _, _, rfl, hcs, hco, hrn, fun q => hce (of_decide_eq_true q), rfl, rfl⟩ qD qF
theorem in14_spec {a : Option Addr} {n c : Nat} {l : List (List UInt8)} {s : List UInt8} (hn : n ≤ 1000000) : Spec Tryz.prog 41 [.slice a n c, S s] [rsl 1 a n c (l.map ys)] [] (fun v D' M' => v = .bool (decide (s ∈ l)) ∧ D' = [] ∧ M' = []) := by
 refine zC (n := 17) Tryz.func41 ?_
 intro σ D M
 refine yH (rows := l.map ys) qM (fun hol hoc => ?_)
 rw [List.length_map] at hol
 refine z6 (z8 (z9 rfl rfl (z7 (z4 (z6 (z6 (z8 (z5 rfl rfl (y2 rfl yL rfl (z5 rfl rfl (z7 (z4 (zr (zX (fun K' D' M' μ => ∃ (i : Nat), (i ≤ n ∧ s ∉ l.take i) ∧ K' = [(9, .int .i64 (i : Int))] ∧ D' = [] ∧ M' = [] ∧ μ = n - i) (.c 1 rfl <| .c 7 rfl <| .c 8 rfl <| za _) (⟨0, ⟨Nat.zero_le _, by simp⟩, rfl, rfl, rfl, rfl⟩) (.c 9 rfl <| za _) qD qS ?_))))))))))))))
 rintro K1 D1 M1 m1 ⟨i, ⟨hi, hno⟩, rfl, rfl, rfl, rfl⟩
 refine zF qA qA qA ?_
 refine z6 (z8 (zQ rfl rfl rfl (z7 (z4 (z6 (zo rfl (fun h10 => ?_) (fun h10 => ?_)))))))
 ·try simp only [dq] at h10
  refine zm (z4 (z6 (zr (z6 ?_))))
  have hgi : l[i]? = some (gd l i) := zJ jO
  obtain ⟨o, ho_⟩ : ∃ z, z = gd l i := ⟨_, rfl⟩
  rw [← ho_] at hgi
  clear ho_
  have hgr : (l.map ys)[i]? = some (ys o) := zU hgi
  refine z8 (yI (i := i) rfl yL sz9 rfl rfl qM jR qG (fun b11 o11 => ?_))
  refine zh rfl sc9 rfl qC ?_
  refine z9 rfl rfl (z7 (z4 (z6 (z8 (z5 rfl rfl (z5 rfl rfl (L.eqS rfl rfl rfl ?_)))))))
  refine z7 (z4 (zo rfl (fun h15 => ?_) (fun h15 => ?_)))
  ·try simp only [dq] at h15
   exact z6 (z8 (z9 rfl rfl (z7 (z4 (zi (y3 (zD (zD (y3 (zD (zz rfl rfl ⟨congrArg Value.bool (decide_eq_true (h15 ▸ List.mem_of_getElem? hgi)).symm, rfl, rfl⟩ qD qF)))))))))))
  ·try simp only [dq] at h15
   refine zm (zI (z4 (z8 (zH rfl rfl rfl jO ?_))))
   exact z5 rfl rfl (z7 (z4 (zM ⟨i + 1, ⟨by omega, in_snoc hgi hno h15⟩, rfl, rfl, rfl, rfl⟩ qI (.c 9 rfl <| za _) (.c 1 rfl <| .c 7 rfl <| .c 8 rfl <| za _) qD qD qF)))
 ·try simp only [dq] at h10
  obtain rfl : n = i := by omega
  rw [List.take_of_length_le jO] at hno
  exact zR (zq (zq (zS (z4 (z6 (z8 (z9 rfl rfl (z7 (z4 (zi (zz rfl rfl ⟨congrArg Value.bool (decide_eq_false hno).symm, rfl, rfl⟩ qD qF)))))))))))
theorem told13_spec {a : Option Addr} {n c : Nat} {os : List Ob} (hn : n ≤ 1000000) : Spec Tryz.prog 27 [.slice a n c] [rsl 34 a n c (os.map obC)] [] (fun v D' M' => ∃ (a' : Option Addr) (c' : Nat), v = .slice a' n c' ∧ D' = [] ∧ M' = [own 3 118 a' n c' ((os).map obR)]) := by
 refine zC (n := 26) Tryz.func27 ?_
 intro σ D M
 refine yH (rows := os.map obC) qM (fun hol hoc => ?_)
 rw [List.length_map] at hol
 
 refine z6 (z8 (z9 rfl rfl (z7 (z4 (z6 (z8 (yh rfl bs27 jD (zO (out := []) rfl) (fun b6 => ?_))))))))
 refine yU (len := 0) qP (rows := (os.take 0).map obR) (sz := 3) (by rfl) rfl (by simp) ?_
 refine z9 rfl rfl (z7 (z4 (z6 (z6 (z8 (z5 rfl rfl (y2 rfl x9 rfl (z5 rfl rfl (z7 (z4 (zr (zX (fun K' D' M' μ => ∃ (i c3 : Nat) (a3 : Option Addr), (i ≤ n) ∧ K' = [(9, .int .i64 (i : Int)), (3, .slice a3 i c3)] ∧ D' = [] ∧ M' = [own 3 118 a3 i c3 ((os.take i).map obR)] ∧ μ = n - i) (.c 7 rfl <| .c 8 rfl <| za _) (⟨0, 0, _, Nat.zero_le _, rfl, rfl, rfl, rfl⟩) (.c 9 rfl <| .c 3 rfl <| za _) qD qS ?_))))))))))))
 rintro K1 D1 M1 m1 ⟨i, c3, a3, hi, rfl, rfl, rfl, rfl⟩
 refine zF qA qA qA ?_
 refine z6 (z8 (zQ rfl rfl rfl (z7 (z4 (z6 (zo rfl (fun h10 => ?_) (fun h10 => ?_)))))))
 ·try simp only [dq] at h10
  refine zm (z4 (z6 (zr (z6 ?_))))
  have hgi : os[i]? = some (gd os i) := zJ jO
  obtain ⟨o, ho_⟩ : ∃ z, z = gd os i := ⟨_, rfl⟩
  rw [← ho_] at hgi
  clear ho_
  have hgr : (os.map obC)[i]? = some (obC o) := zU hgi
  have ho32 := o.2.1.2
  have ho33 := obC_len o
  refine z8 (yI (i := i) rfl x9 sz45 rfl rfl qM jR qG (fun b11 o11 => ?_))
  refine zp rfl ag45 rfl (x8 qM ho33) ?_
  refine zL rfl ze45 (fun b5 => ?_)
  refine zE ag45 rfl rfl qL qO qU qW ?_
  refine z7 (y1 (A := cl b5 45 (obC o)) qP ?_)
  refine z4 (yt (clsL [1, 1, 0, 1, 0, 0, 1, 0, 1, 2, 2, 1]) qk ?_)
  refine ze 0 rfl rfl (z5 rfl rfl (zd (ze 1 rfl rfl (zj rfl fo45_0 rfl ?_))))
  refine zd (ze 3 rfl rfl (zj rfl fo45_1 rfl ?_))
  refine zd (ze 6 rfl rfl (zj rfl fo45_2 rfl ?_))
  refine zd (y8 (i := 2) rfl rfl rfl rfl qk qk qk qk rfl qD qF ?_)
  refine zh rfl sc3 rfl qC ?_
  refine zd (y8 (i := 4) rfl rfl rfl rfl qk qk qk qk rfl qD qF ?_)
  refine zp rfl zu rfl qN ?_
  refine zd (y8 (i := 7) rfl rfl rfl rfl qk qk qk qk rfl qD qF ?_)
  refine zh rfl sc9 rfl qC ?_
  refine zd (zy 5 rfl (zW rfl (ev1 rfl) qD qS (obytes_spec (l := o.2.1.1) ho32) jF ?_))
  refine yK rfl qD qF ?_
  refine ze 8 rfl rfl (yw rfl bu118 (zB rfl rfl rfl <| zB rfl rfl rfl <| zB rfl rfl rfl <| zO (out := []) rfl) ?_)
  refine zd (zy 9 rfl (yh rfl bs27 jD (yQ rfl rfl (by first | with_reducible assumption | (simp; done) | (simp only [List.length_map]; with_reducible assumption) | (simp [*]; done) | rfl) (Nat.le_of_ble_eq_true rfl) qR <| zO (out := []) rfl) (fun b22 => ?_)))
  refine zw rfl qD ?_
  refine zy 10 rfl (yR rfl xI el118 rfl rfl qP qM rfl qO1 qI qI (fun a23 c23 => ?_))
  refine zw rfl qD ?_
  refine ze 11 rfl rfl (z9 rfl rfl (zd (y6 qk ?_)))
  refine zI (z4 (z8 (zH rfl rfl rfl jO ?_)))
  refine z5 rfl rfl (z7 (z4 (y4 _ ((os.take (i + 1)).map obR) qP (by rw [← take_snoc hgi, List.map_append]; rfl) ?_)))
  exact zM ⟨i + 1, _, _, jO, rfl, rfl, rfl, rfl⟩ qI (.c 9 rfl <| .c 3 rfl <| za _) (.c 7 rfl <| .c 8 rfl <| za _) qD qD qF
 ·try simp only [dq] at h10
  obtain rfl : n = i := by omega
  rw [List.take_of_length_le jO]
  exact zR (zq (zq (zS (z4 (z6 (z8 (z5 rfl rfl (z9 rfl rfl (z7 (z4 (zi (zz rfl rfl ⟨_, _, rfl, rfl, rfl⟩ qD qF))))))))))))
end Cv
