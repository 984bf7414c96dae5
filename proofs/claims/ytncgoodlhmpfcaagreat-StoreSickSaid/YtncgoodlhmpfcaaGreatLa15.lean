/-
  The walks: nodes read.
-/
import Derived.Test.YtncgoodlhmpfcaaGreatOa11
set_option linter.all false
set_option maxHeartbeats 400000
set_option maxRecDepth 10000
namespace Cv
open Go Go.Proofs
/-! ## nodes read: the plain model -/
def ptsL : Nat → Bl → List Pt × Bl
  | 0, b => ([], b)
  | n + 1, b => if b.err ≠ 0 then ([], b) else (((idR b).1, ((intR (idR b).2 32768).1 : Int)) :: (ptsL n (intR (idR b).2 32768).2).1, (ptsL n (intR (idR b).2 32768).2).2)
structure PtsI (b : Bl) (n j : Nat) (q : Bl) (acc : List Pt) : Prop where
  r1 : (ptsL n b).1 = acc ++ (ptsL j q).1
  r2 : (ptsL n b).2 = (ptsL j q).2
  len : acc.length + j = n
theorem PtsI.start {b : Bl} {n : Nat} : PtsI b n n b [] := ⟨rfl, rfl, Nat.zero_add _⟩
theorem PtsI.next {b q : Bl} {n j : Nat} {acc : List Pt} (h : PtsI b n (j + 1) q acc) (e : q.err = 0) : PtsI b n j (intR (idR q).2 32768).2 (acc ++ [((idR q).1, ((intR (idR q).2 32768).1 : Int))]) := by
  obtain ⟨h1, h2, h3⟩ := h
  rw [ptsL, if_neg (fun k => k e)] at h1 h2
  exact ⟨by rw [h1]; simp, h2, by rw [List.length_append]; simp only [List.length_singleton]; omega⟩
theorem PtsI.stop {b q : Bl} {n j : Nat} {acc : List Pt} (h : PtsI b n j q acc) (e : j = 0 ∨ q.err ≠ 0) : ptsL n b = (acc, q) := by
  obtain ⟨h1, h2, h3⟩ := h
  have : ptsL j q = ([], q) := by
    cases j with
    | zero => rfl
    | succ j => rw [ptsL, if_pos (by rcases e with e | e <;> first | omega | exact e)]
  rw [this] at h1 h2
  exact Prod.ext (by rw [h1]; simp) h2
theorem ptsL_len : ∀ (n : Nat) (b : Bl), (ptsL n b).1.length ≤ n
  | 0, _ => Nat.le_refl _
  | n + 1, b => by
    rw [ptsL]
    split
    · simp
    · have := ptsL_len n (intR (idR b).2 32768).2
      simp only [List.length_cons]; omega
theorem ptsL_in : ∀ (n : Nat) (b : Bl), ∀ p ∈ (ptsL n b).1, 0 ≤ p.2 ∧ p.2 ≤ 32768
  | 0, _, p, h => by cases h
  | n + 1, b, p, h => by
    rw [ptsL] at h
    split at h
    · cases h
    · rcases List.mem_cons.1 h with e | e
      · have := int_le (idR b).2 32768
        rw [e]; show 0 ≤ ((intR (idR b).2 32768).1 : Int) ∧ ((intR (idR b).2 32768).1 : Int) ≤ 32768; omega
      · exact ptsL_in n _ p e
def mostF (k : Nat) : Nat := min (256 * 8 ^ (k - 1)) 32768
theorem mostF_1 : mostF 1 = 256 := rfl
theorem mostF_s (i : Nat) : mostF (i + 2) = min (mostF (i + 1) * 8) 32768 := by
  unfold mostF
  rw [show i + 2 - 1 = i + 1 by omega, show i + 1 - 1 = i by omega, Nat.pow_succ]
  omega
def badP (k : Nat) (p : Pt) : Int := if p.2 < 1 then 2 else if (mostF k : Int) < p.2 then 5 else 0
def chkG (k : Nat) : List Pt → Int
  | [] => 0
  | p :: ps => if badP k p ≠ 0 then badP k p else chkG k ps
def chkN (k : Nat) (ps : List Pt) : Int := if k < 1 ∨ 8 < k ∨ ps = [] then 2 else if 8 < ps.length then 5 else if chkG k ps ≠ 0 then chkG k ps else if 32768 < sizeP ps then 5 else 0
theorem chkG_hit {k : Nat} : ∀ {ps : List Pt} {i : Nat} {p : Pt}, (∀ y ∈ ps.take i, badP k y = 0) → ps[i]? = some p → badP k p ≠ 0 → chkG k ps = badP k p
  | [], _, _, _, h, _ => by simp at h
  | q :: ps, 0, p, _, h, e => by
    obtain rfl : q = p := by simpa using h
    rw [chkG, if_pos e]
  | q :: ps, i + 1, p, hn, h, e => by
    rw [chkG, if_neg (fun z => z (hn q (by simp)))]
    exact chkG_hit (i := i) (fun y hy => hn y (by rw [List.take_succ_cons]; exact List.mem_cons_of_mem _ hy)) (by simpa using h) e
theorem chkG_ok {k : Nat} : ∀ {ps : List Pt}, (∀ y ∈ ps, badP k y = 0) → chkG k ps = 0
  | [], _ => rfl
  | q :: ps, h => by rw [chkG, if_neg (fun z => z (h q (by simp)))]; exact chkG_ok fun y hy => h y (by simp [hy])
theorem chkG_all {k : Nat} : ∀ {ps : List Pt}, chkG k ps = 0 → ∀ y ∈ ps, badP k y = 0
  | q :: ps, h, y, hy => by
    rw [chkG] at h
    split at h
    · rename_i c; exact absurd h c
    · rename_i c
      rcases List.mem_cons.1 hy with e | e
      · rw [e]; exact Decidable.not_not.1 c
      · exact chkG_all h y e
theorem bad_snoc {k i : Nat} {ps : List Pt} {p : Pt} (h : ps[i]? = some p) (hn : ∀ y ∈ ps.take i, badP k y = 0) (e : badP k p = 0) : ∀ y ∈ ps.take (i + 1), badP k y = 0 := fun y hy => by
  rw [List.take_add_one, h] at hy
  rcases List.mem_append.1 hy with q | q
  · exact hn y q
  · obtain rfl : y = p := by simpa using q
    exact e
theorem chkN_2 {k : Nat} {ps : List Pt} (h : k < 1 ∨ 8 < k ∨ ps = []) : chkN k ps = 2 := if_pos h
theorem chkN_5 {k : Nat} {ps : List Pt} (h : ¬ (k < 1 ∨ 8 < k ∨ ps = [])) (h5 : 8 < ps.length) : chkN k ps = 5 := by unfold chkN; rw [if_neg h, if_pos h5]
theorem chkN_b {k : Nat} {ps : List Pt} {i : Nat} {p : Pt} (h : ¬ (k < 1 ∨ 8 < k ∨ ps = [])) (h5 : ¬ 8 < ps.length) (hn : ∀ y ∈ ps.take i, badP k y = 0) (hp : ps[i]? = some p) (e : badP k p ≠ 0) : chkN k ps = badP k p := by
  unfold chkN; rw [if_neg h, if_neg h5, chkG_hit hn hp e, if_pos e]
theorem chkN_s {k : Nat} {ps : List Pt} (h : ¬ (k < 1 ∨ 8 < k ∨ ps = [])) (h5 : ¬ 8 < ps.length) (hn : ∀ y ∈ ps, badP k y = 0) : chkN k ps = if 32768 < sizeP ps then 5 else 0 := by
  unfold chkN; rw [if_neg h, if_neg h5, chkG_ok hn, if_neg (fun q => q rfl)]
theorem badP_2 {k : Nat} {p : Pt} (h : p.2 < 1) : badP k p = 2 := if_pos h
theorem badP_5 {k : Nat} {p : Pt} (h : ¬ p.2 < 1) (h2 : (mostF k : Int) < p.2) : badP k p = 5 := by unfold badP; rw [if_neg h, if_pos h2]
theorem badP_0 {k : Nat} {p : Pt} (h : ¬ p.2 < 1) (h2 : ¬ (mostF k : Int) < p.2) : badP k p = 0 := by unfold badP; rw [if_neg h, if_neg h2]
def nodZ (s : List UInt8) : (Nat × Bl) × (Nat × Bl) × (List Pt × Bl) := (intR ⟨s, 0⟩ 8, intR (intR ⟨s, 0⟩ 8).2 8, ptsL (intR (intR ⟨s, 0⟩ 8).2 8).1 (intR (intR ⟨s, 0⟩ 8).2 8).2)
def nodR (s : List UInt8) : Nat × List Pt × Int :=
  if closeE (nodZ s).2.2.2 ≠ 0 then (0, [], closeE (nodZ s).2.2.2)
  else if chkN (nodZ s).1.1 (nodZ s).2.2.1 ≠ 0 then (0, [], chkN (nodZ s).1.1 (nodZ s).2.2.1)
  else ((nodZ s).1.1, (nodZ s).2.2.1, 0)
theorem nodR_len (s : List UInt8) : (nodR s).2.1.length ≤ 8 := by
  have h : (nodZ s).2.2.1.length ≤ 8 := Nat.le_trans (ptsL_len _ _) (int_le _ 8)
  unfold nodR
  split
  · simp
  · split
    · simp
    · exact h
theorem nodR_in (s : List UInt8) : (nodR s).1 ≤ 8 ∧ ∀ p ∈ (nodR s).2.1, 0 ≤ p.2 ∧ p.2 ≤ 32768 := by
  have h : (nodZ s).1.1 ≤ 8 := int_le _ 8
  have h2 := ptsL_in (nodZ s).2.1.1 (nodZ s).2.1.2
  unfold nodR
  split
  · exact ⟨by show 0 ≤ 8; decide, fun p hp => (by cases hp)⟩
  · split
    · exact ⟨by show 0 ≤ 8; decide, fun p hp => (by cases hp)⟩
    · exact ⟨h, h2⟩
theorem nodR_ok {s : List UInt8} (h : (nodR s).2.2 = 0) : chkN (nodR s).1 (nodR s).2.1 = 0 := by
  unfold nodR at h ⊢
  split at h
  · rename_i k; exact absurd h k
  · rename_i k
    rw [if_neg k]
    split at h
    · rename_i k2; exact absurd h k2
    · rename_i k2; rw [if_neg k2]; exact Decidable.not_not.1 k2
theorem chkN_0 {k : Nat} {ps : List Pt} (h : chkN k ps = 0) : 1 ≤ k ∧ k ≤ 8 ∧ ps ≠ [] ∧ ps.length ≤ 8 ∧ (∀ p ∈ ps, 1 ≤ p.2 ∧ p.2 ≤ mostF k) ∧ sizeP ps ≤ 32768 := by
  unfold chkN at h
  split at h
  · exact absurd h (by decide)
  · rename_i c1
    split at h
    · exact absurd h (by decide)
    · rename_i c2
      split at h
      · rename_i c3; exact absurd h c3
      · rename_i c3
        split at h
        · exact absurd h (by decide)
        · rename_i c4
          have hg := chkG_all (Decidable.not_not.1 c3)
          refine ⟨by omega, by omega, fun e => c1 (.inr (.inr e)), by omega, fun p hp => ?_, by omega⟩
          have := hg p hp
          unfold badP at this
          split at this
          · exact absurd this (by decide)
          · split at this
            · exact absurd this (by decide)
            · omega

theorem nk_of {k n : Nat} {ps : List Pt} (hpl : ps.length = n) (h : k < 1 ∨ 8 < k ∨ n < 1) : k < 1 ∨ 8 < k ∨ ps = [] := by
  rcases h with q | q | q
  · exact .inl q
  · exact .inr (.inl q)
  · exact .inr (.inr (List.length_eq_zero_iff.1 (by omega)))
theorem nk_not {k n : Nat} {ps : List Pt} (hpl : ps.length = n) (h : ¬ (k < 1 ∨ 8 < k ∨ n < 1)) : ¬ (k < 1 ∨ 8 < k ∨ ps = []) := fun q => by
  rcases q with q | q | q
  · exact h (.inl q)
  · exact h (.inr (.inl q))
  · rw [q] at hpl; exact h (.inr (.inr (by simp at hpl; omega)))
theorem z_or {j : Nat} {e : Int} (h : ¬ (0 < j ∧ e = 0)) : j = 0 ∨ e ≠ 0 := by
  rcases Nat.eq_zero_or_pos j with q | q
  · exact .inl q
  · exact .inr fun k => h ⟨q, k⟩

theorem most_spec {k : Nat} (hk : 1 ≤ k ∧ k ≤ 1000) : Spec Tryz.prog 239 [.int .i64 (k : Int)] [] [] (fun v D' M' => v = .int .i64 (mostF k : Nat) ∧ D' = [] ∧ M' = []) := by
 refine zv (n := 13) Tryz.func239 ?_
 intro σ D M
 refine O (V R R (I (O (V R R (I (ze (O (E R R (yt R R R jO ?_)))))))))
 refine E R R (I (zD (y8 (fun K' D' M' μ => ∃ (i : Nat), (i ≤ k - 1) ∧ K' = [(6, .int .i64 (i : Int)), (3, .int .i64 (mostF (i + 1) : Nat))] ∧ D' = [] ∧ M' = [] ∧ μ = k - 1 - i) (.c 5 R <| zd _) (⟨0, Nat.zero_le _, R, R, R, R⟩) (.c 6 R <| .c 3 R <| zd _) qD qS ?_)))
 rintro K1 D1 M1 m1 ⟨i, hi, rfl, rfl, rfl, rfl⟩
 refine zM qA qA qA ?_
 have hml : mostF (i + 1) ≤ 32768 := Nat.min_le_right _ _
 refine O (zW R R R (I (ze (zA R (fun h7 => ?_) (fun h7 => ?_)))))
 ·try simp only [dq] at h7
  refine zq (z8 (ze (zD (zt (E R R (L.mulN R R R jO ?_))))))
  refine L.minI R R R ?_
  refine zE (t := 10) (u := .int .i64 (mostF (i + 2) : Nat)) R (congrArg (Value.int .i64) (by have := mostF_s i; omega)) ?_
  refine V R R (zu (zS (z8 (zt (zT R R R jO ?_)))))
  exact E R R (I (zV ⟨i + 1, jO, R, R, R, R⟩ qI (.c 6 R <| .c 3 R <| zd _) (.c 5 R <| zd _) qD qD qF))
 try simp only [dq] at h7
 obtain rfl : k = i + 1 := by omega
 exact y4 (zG (zG (y5 (z8 (O (E R R (V R R (I (zo (zy R R ⟨R, R, R⟩ qD qF))))))))))
theorem ncheck_spec {k n c : Nat} {a : Option Addr} {ps : List Pt} (hn : n ≤ 1000000) (hp : ∀ p ∈ ps, 0 ≤ p.2 ∧ p.2 ≤ 1000000000) : Spec Tryz.prog 235 [.agg #[.int .i64 (k : Int), .slice a n c]] [rsl 33 a n c (ps.map ptC)] [] (fun v D' M' => v = .int .i64 (chkN k ps) ∧ D' = [] ∧ M' = []) := by
 refine zv (n := 45) Tryz.func235 ?_
 intro σ D M
 refine yU (rows := ps.map ptC) qM (fun hpl hpc => ?_)
 rw [List.length_map] at hpl
 
 refine O (y6 R R R (fun b1 => ?_))
 refine V R R (zu (zO (A := cl b1 266 [.int .i64 (k : Int), .slice a n c]) qP ?_))
 refine z8 (ze (zD (ze (yx (fun K' D' M' => ∃ (w : Bool), (w = true ↔ (k < 1 ∨ 8 < k ∨ n < 1)) ∧ K' = [(5, .bool w)] ∧ D' = [] ∧ M' = []) (M0 := []) (.c 1 R <| zd _) qS ?_ ?_))))
 ·refine zt (zg R fo266_0 R ?_)
  refine zf R sc3 R qC ?_
  refine zW R R R (E R R (yT (t := 9) R (fun h1 => ?_) (fun h1 => ?_)))
  ·try simp only [dq] at h1
   exact zw 9 true R R R R R jD (zw 9 true R R R R R jD (zw 9 true R R R R R jD (ym R R R (E R R (zw 14 true R R R R R jD (zw 14 true R R R R R jD (zw 14 true R R R R R jD (zw 14 true R R R R R jD (ym R R R (V R R (I (zK ⟨_, (by simp_all <;> omega), R, R, R⟩ (.c 5 R <| zd _) (.c 1 R <| zd _) qD qD qF))))))))))))
  try simp only [dq] at h1
  refine zj 9 R R R (zg R fo266_0 R ?_)
  refine zj 9 R R R (zf R sc3 R qC ?_)
  refine zj 9 R R R (yy R R R (yg R R R (E R R (yT (t := 14) R (fun h2 => ?_) (fun h2 => ?_)))))
  ·try simp only [dq] at h2
   exact zw 14 true R R R R R jD (zw 14 true R R R R R jD (zw 14 true R R R R R jD (zw 14 true R R R R R jD (ym R R R (V R R (I (zK ⟨_, (by simp_all <;> omega), R, R, R⟩ (.c 5 R <| zd _) (.c 1 R <| zd _) qD qD qF)))))))
  try simp only [dq] at h2
  refine zj 14 R R R (zg R fo266_1 R ?_)
  refine zj 14 R R R (zf R sc203 R qC ?_)
  exact zj 14 R R R (yb R xm R (zj 14 R R R (zW R R R (yg R R R (V R R (I (zK ⟨_, (by simp_all <;> omega), R, R, R⟩ (.c 5 R <| zd _) (.c 1 R <| zd _) qD qD qF)))))))
 rintro _ _ _ ⟨w, hw, rfl, rfl, rfl⟩
 refine zM qA qA qA ?_
 refine z8 (zA R (fun h5 => ?_) (fun h5 => ?_))
 ·try simp only [dq] at h5
  have hk2 := nk_of hpl (hw.1 h5)
  exact O (V R R (I (zo (yv (zL (zy R R ⟨by rw [chkN_2 hk2], R, R⟩ qD qF))))))
 try simp only [dq] at h5
 have hwf : ¬ (k < 1 ∨ 8 < k ∨ n < 1) := fun e => by have := hw.2 e; rw [h5] at this; cases this
 have hk1 : ¬ (k < 1 ∨ 8 < k ∨ ps = []) := nk_not hpl jO
 refine O (zg R fo266_1 R ?_)
 refine zf R sc203 R qC ?_
 refine yb R xm R (yy R R R (V R R (I (zA R (fun h20 => ?_) (fun h20 => ?_)))))
 ·try simp only [dq] at h20
  exact O (V R R (I (zo (yv (zL (zy R R ⟨by rw [chkN_5 hk1 jO], R, R⟩ qD qF))))))
 try simp only [dq] at h20
 refine zq (zS (z8 (ze (O (zg R fo266_1 R ?_)))))
 refine zf R sc203 R qC ?_
 refine yb R xm R (E R R (I (zD (y8 (fun K' D' M' μ => ∃ (i : Nat), (i ≤ n ∧ ∀ y ∈ ps.take i, badP k y = 0) ∧ K' = [(28, .int .i64 (i : Int))] ∧ D' = [] ∧ M' = [] ∧ μ = n - i) (.c 1 R <| .c 26 R <| .c 27 R <| zd _) (⟨0, ⟨Nat.zero_le _, by simp⟩, R, R, R, R⟩) (.c 28 R <| zd _) qD qS ?_))))
 rintro K1 D1 M1 m1 ⟨i, ⟨hi, hno⟩, rfl, rfl, rfl, rfl⟩
 refine zM qA qA qA ?_
 refine O (zW R R R (I (ze (zA R (fun h29 => ?_) (fun h29 => ?_)))))
 ·try simp only [dq] at h29
  refine zq (z8 (ze (zD (ze ?_))))
  have hgi : ps[i]? = some (gd ps i) := y9 jO
  obtain ⟨p, hp_⟩ : ∃ x, x = gd ps i := ⟨_, rfl⟩
  rw [← hp_] at hgi
  clear hp_
  have hgr : (ps.map ptC)[i]? = some (ptC p) := yJ hgi
  have hp32 := p.1.2
  have hp33 := ptC_len p
  have hpm := hp p (List.mem_of_getElem? hgi)
  refine zt (yP (i := i) R xm sz73 R R qM jR qG (fun b30 o30 => ?_))
  refine zx R ag73 R (xl qM hp33) ?_
  refine zC R ze73 (fun b4 => ?_)
  refine zz ag73 R R qL qO qU qW ?_
  refine zu (zO (A := cl b4 73 (ptC p)) qP ?_)
  refine z8 (ze (O (zg R fo73_1 R ?_)))
  refine zf R sc3 R qC ?_
  refine zW R R R (I (zA R (fun h34 => ?_) (fun h34 => ?_)))
  ·try simp only [dq] at h34
   exact O (V R R (I (zo (zL (yv (zL (zL (yv (zL (zy R R ⟨by rw [chkN_b hk1 jO hno hgi (by rw [badP_2 jO]; decide), badP_2 jO], R, R⟩ qD qF))))))))))
  try simp only [dq] at h34
  refine zq (z8 (ze ?_))
  have hk18 : 1 ≤ k ∧ k ≤ 1000 := by omega
  refine xg qk qk (zg R fo73_1 R ?_)
  refine zf R sc3 R qC ?_
  refine zg R fo266_0 R ?_
  refine zf R sc3 R qC ?_
  refine zH R (ev1 R) qD qS (most_spec (k := k) hk18) jF ?_
  refine yy R R R (yY (z8 (zA R (fun h40 => ?_) (fun h40 => ?_))))
  ·try simp only [dq] at h40
   exact O (V R R (I (zo (yv (zL (zL (yv (zL (zy R R ⟨by rw [chkN_b hk1 jO hno hgi (by rw [badP_5 jO jO]; decide), badP_5 jO jO], R, R⟩ qD qF)))))))))
  try simp only [dq] at h40
  refine zq (zS (z8 (zt (zT R R R jO ?_))))
  exact E R R (I (zV ⟨i + 1, ⟨by omega, bad_snoc hgi hno (badP_0 jO jO)⟩, R, R, R, R⟩ qI (.c 28 R <| zd _) (.c 1 R <| .c 26 R <| .c 27 R <| zd _) qD qD qF))
 try simp only [dq] at h29
 obtain rfl : n = i := by omega
 rw [List.take_of_length_le jO] at hno
 have hcs := chkN_s hk1 jO hno
 refine y4 (zG (zG (y5 (z8 (ze (O (zx R ag266 R qN ?_)))))))
 refine zH R (ev1 R) qD qS (nsize_spec (k := k) (ps := ps) hn hp) jF ?_
 refine yy R R R (I (zA R (fun h44 => ?_) (fun h44 => ?_)))
 ·try simp only [dq] at h44
  exact O (V R R (I (zo (zL (zy R R ⟨by rw [hcs, if_pos jO], R, R⟩ qD qF)))))
 try simp only [dq] at h44
 exact zq (z8 (O (V R R (I (zo (zy R R ⟨by rw [hcs, if_neg jO], R, R⟩ qD qF))))))
theorem nparse_spec {s : List UInt8} (hs : s.length ≤ 1000000000) : Spec Tryz.prog 224 [S s] [] [] (fun v D' M' => ∃ (a' : Option Addr) (n' c' : Nat), v = .tuple #[.agg #[.int .i64 ((nodR s).1 : Nat), .slice a' n' c'], .int .i64 (nodR s).2.2] ∧ ((nodR s).2.1.length = n') ∧ D' = [rsl 33 a' n' c' ((nodR s).2.1.map ptC)] ∧ M' = []) := by
 refine zv (n := 50) Tryz.func224 ?_
 intro σ D M
 obtain ⟨z1, h1⟩ : ∃ z, z = intR ⟨s, 0⟩ 8 := ⟨_, rfl⟩
 obtain ⟨z2, h2⟩ : ∃ z, z = intR z1.2 8 := ⟨_, rfl⟩
 obtain ⟨z3, h3⟩ : ∃ z, z = ptsL z2.1 z2.2 := ⟨_, rfl⟩
 have hP : nodR s = (if closeE z3.2 ≠ 0 then (0, [], closeE z3.2) else if chkN z1.1 z3.1 ≠ 0 then (0, [], chkN z1.1 z3.1) else (z1.1, z3.1, 0)) := by rw [h3, h2, h1]; rfl
 have hl1 := int_le ⟨s, 0⟩ 8
 rw [← h1] at hl1
 have hl2 := int_le z1.2 8
 rw [← h2] at hl2
 have hl3 := ptsL_len z2.1 z2.2
 rw [← h3] at hl3
 have hin := ptsL_in z2.1 z2.2
 rw [← h3] at hin
 refine O (zC R ze266 (fun b2 => ?_))
 refine V R R (I (O (E R R (zp R (ev1 R) qD qS (bopen_spec) ?_))))
 rintro _ _ _ ⟨bb, rfl, rfl, rfl⟩
 refine zm qA qA ?_
 refine V R R (I (O (E R R (zp R (ev2 R R) qD qS (bint_spec (b := ⟨s, 0⟩) (top := 8) jD) ?_))))
 rintro _ _ _ ⟨rfl, rfl, rfl⟩
 refine zm qA qA ?_
 rw [← h1]
 refine yq R bu266 (zF R R R <| zQ (out := [Value.slice none 0 0]) R) ?_
 refine zC R ze266 (fun b5 => ?_)
 refine zz ag266 R R qL qO qU qW ?_
 refine zu (yM (sz := 33) (e := 73) ?_)
 refine y3 qP (show own 33 73 none 0 0 [] = own 33 73 none 0 0 ((([] : List Pt)).map ptC) from R) ?_
 refine z8 (ze (O (E R R (zp R (ev2 R R) qD qS (bint_spec (b := z1.2) (top := 8) jD) ?_))))
 rintro _ _ _ ⟨rfl, rfl, rfl⟩
 refine zm qA qA ?_
 rw [← h2]
 refine V R R (I (zD (y8 (fun K' D' M' μ => ∃ (j n5 c5 : Nat) (a5 : Option Addr) (q : Bl) (acc : List Pt), (PtsI z2.2 z2.1 j q acc ∧ acc.length = n5) ∧ K' = [(6, .int .i64 (j : Int))] ∧ D' = [] ∧ M' = [cl bb 292 (blR (q)), cl b5 266 [.int .i64 ((z1.1 : Nat) : Int), .slice a5 n5 c5], own 33 73 a5 n5 c5 ((acc).map ptC)] ∧ μ = 2 * j) (.c 2 R <| .c 4 R <| .c 5 R <| zd _) (⟨z2.1, 0, 0, none, z2.2, [], ⟨.start, R⟩, R, R, R, R⟩) (.c 6 R <| zd _) qD qS ?_)))
 rintro K1 D1 M1 m1 ⟨j, n5, c5, a5, q, acc, ⟨hI, hac⟩, rfl, rfl, rfl, rfl⟩
 refine zM qA qA qA ?_
 have hIl := hI.len
 refine ze (ze (yx (fun K' D' M' => ∃ (w : Bool), (w = true ↔ (0 < j ∧ q.err = 0)) ∧ K' = [(23, .bool w)] ∧ D' = [] ∧ M' = [cl bb 292 (blR (q))]) (M0 := [cl bb 292 (blR (q))]) (.c 2 R <| .c 4 R <| .c 5 R <| .c 6 R <| zd _) qS ?_ ?_))
 ·refine zt (E R R (yy R R R (E R R (yT (t := 19) R (fun h1 => ?_) (fun h1 => ?_)))))
  ·try simp only [dq] at h1
   refine zj 19 R R R (E R R (zj 19 R R R (zp R (ev1 R) qD qS (berr_spec (b := q)) ?_)))
   rintro _ _ _ ⟨rfl, rfl, rfl⟩
   refine zm qA qA ?_
   exact zj 19 R R R (yi R R R (ym R R R (I (zK ⟨_, (by simp_all <;> omega), R, R, R⟩ (.c 23 R <| zd _) (.c 2 R <| .c 4 R <| .c 5 R <| .c 6 R <| zd _) qD qD qF))))
  try simp only [dq] at h1
  exact zw 19 false R R R R R jD (zw 19 false R R R R R jD (zw 19 false R R R R R jD (yg R R R (I (zK ⟨_, (by simp_all <;> omega), R, R, R⟩ (.c 23 R <| zd _) (.c 2 R <| .c 4 R <| .c 5 R <| .c 6 R <| zd _) qD qD qF)))))
 rintro _ _ _ ⟨w, hw, rfl, rfl, rfl⟩
 refine zM qA qA qA ?_
 refine z8 (zA R (fun h23 => ?_) (fun h23 => ?_))
 ·try simp only [dq] at h23
  have hwt := hw.1 h23
  refine zq (z8 (ze (zD (ze ?_))))
  obtain ⟨j2, rfl⟩ : ∃ j2, j = j2 + 1 := ⟨j - 1, by omega⟩
  have hqe : q.err = 0 := hwt.2
  have hi3 := yw (idR q).1
  have hi32 := (idR q).1.2
  have hil := int_le (idR q).2 32768
  refine zt (E R R (zp R (ev1 R) qD qS (bid_spec (b := q)) ?_))
  rintro _ _ _ ⟨rfl, rfl, rfl⟩
  refine zm qA qA ?_
  refine zC R ze38 (fun b7 => ?_)
  refine zz zI R R qL qO qU qW ?_
  refine zu (zO (A := cl b7 38 (iC (idR q).1)) qP ?_)
  refine z8 (y7 (clsL [1, 2, 1, 1, 2, 1, 2, 2, 1, 2]) qk ?_)
  refine z9 0 R R (zg R fo266_1 R ?_)
  refine z7 (z9 2 R R (zx R zI R (CellsN.ofF qM (AtN.all hi3)) ?_))
  refine z7 (z9 3 R R (E R R (z7 (yA (is := [1, 4]) qk jD (zU R ?_ <| zU R ?_ <| yB) ))))
  ·refine zf R sc203 R qC ?_
   refine zh R qD ?_
   refine zi 4 R (zp R (ev2 R R) qD qS (bint_spec (b := (idR q).2) (top := 32768) jD) ?_)
   rintro _ _ _ ⟨rfl, rfl, rfl⟩
   refine zm qA qA ?_
   refine zh R qD ?_
   refine z9 5 R R (yq R bu73 (yG R R j1 (Nat.le_of_ble_eq_true R) qR <| zF R R R <| zQ (out := []) R) ?_)
   refine zE (t := 33) (u := .agg (ptC ((idR q).1, ((intR (idR q).2 32768).1 : Int))).toArray) R (by first | rfl | simp) ?_
   refine z7 (zi 6 R (yl R bs203 jD (yG R R j1 (Nat.le_of_ble_eq_true R) qR <| zQ (out := []) R) (fun b34 => ?_)))
   refine zh R qD ?_
   refine zi 7 R (x6 R xm el73 R R qP qM (by rw [List.append_nil]; exact ptC_len _) (fun u hu => by rw [List.append_nil] at hu; exact one_pt u hu) qI qI (fun a35 c35 => ?_))
   refine zh R qD ?_
   refine z9 8 R R (zg R fo266_1 R ?_)
   refine z7 (zi 9 R (yj sc203 R R R qU qE ?_))
   refine zh R qD ?_
   refine zN qk ?_
   refine zS (z8 (zt (E R R (yt R R R jO ?_))))
   refine zE (t := 25) (u := .int .i64 (j2 : Int)) R (congrArg (Value.int .i64) jO) ?_
   refine V R R (I (yp _ ((acc ++ [((idR q).1, ((intR (idR q).2 32768).1 : Int))]).map ptC) qP (by rw [List.map_append, List.append_nil]; rfl) ?_))
   exact zV ⟨j2, n5 + 1, _, _, (intR (idR q).2 32768).2, acc ++ [((idR q).1, ((intR (idR q).2 32768).1 : Int))], ⟨hI.next hqe, by rw [List.length_append, hac]; rfl⟩, R, R, R, R⟩ qI (.c 6 R <| zd _) (.c 2 R <| .c 4 R <| .c 5 R <| zd _) qD qD qF
  refine zp R (ev2 R R) qD qS (bint_spec (b := (idR q).2) (top := 32768) jD) ?_
  rintro _ _ _ ⟨rfl, rfl, rfl⟩
  refine zm qA qA ?_
  refine zh R qD ?_
  refine z9 5 R R (yq R bu73 (yG R R j1 (Nat.le_of_ble_eq_true R) qR <| zF R R R <| zQ (out := []) R) ?_)
  refine zE (t := 33) (u := .agg (ptC ((idR q).1, ((intR (idR q).2 32768).1 : Int))).toArray) R (by first | rfl | simp) ?_
  refine z7 (yA (is := [1, 6]) qk jD (zU R ?_ <| zU R ?_ <| yB) )
  ·refine zf R sc203 R qC ?_
   refine zh R qD ?_
   refine zi 6 R (yl R bs203 jD (yG R R j1 (Nat.le_of_ble_eq_true R) qR <| zQ (out := []) R) (fun b34 => ?_))
   refine zh R qD ?_
   refine zi 7 R (x6 R xm el73 R R qP qM (by rw [List.append_nil]; exact ptC_len _) (fun u hu => by rw [List.append_nil] at hu; exact one_pt u hu) qI qI (fun a35 c35 => ?_))
   refine zh R qD ?_
   refine z9 8 R R (zg R fo266_1 R ?_)
   refine z7 (zi 9 R (yj sc203 R R R qU qE ?_))
   refine zh R qD ?_
   refine zN qk ?_
   refine zS (z8 (zt (E R R (yt R R R jO ?_))))
   refine zE (t := 25) (u := .int .i64 (j2 : Int)) R (congrArg (Value.int .i64) jO) ?_
   refine V R R (I (yp _ ((acc ++ [((idR q).1, ((intR (idR q).2 32768).1 : Int))]).map ptC) qP (by rw [List.map_append, List.append_nil]; rfl) ?_))
   exact zV ⟨j2, n5 + 1, _, _, (intR (idR q).2 32768).2, acc ++ [((idR q).1, ((intR (idR q).2 32768).1 : Int))], ⟨hI.next hqe, by rw [List.length_append, hac]; rfl⟩, R, R, R, R⟩ qI (.c 6 R <| zd _) (.c 2 R <| .c 4 R <| .c 5 R <| zd _) qD qD qF
  refine yl R bs203 jD (yG R R j1 (Nat.le_of_ble_eq_true R) qR <| zQ (out := []) R) (fun b34 => ?_)
  refine zh R qD ?_
  refine zi 1 R (zf R sc203 R qC ?_)
  refine zh R qD ?_
  refine zi 7 R (x6 R xm el73 R R qP qM (by rw [List.append_nil]; exact ptC_len _) (fun u hu => by rw [List.append_nil] at hu; exact one_pt u hu) qI qI (fun a35 c35 => ?_))
  refine zh R qD ?_
  refine z9 8 R R (zg R fo266_1 R ?_)
  refine z7 (zi 9 R (yj sc203 R R R qU qE ?_))
  refine zh R qD ?_
  refine zN qk ?_
  refine zS (z8 (zt (E R R (yt R R R jO ?_))))
  refine zE (t := 25) (u := .int .i64 (j2 : Int)) R (congrArg (Value.int .i64) jO) ?_
  refine V R R (I (yp _ ((acc ++ [((idR q).1, ((intR (idR q).2 32768).1 : Int))]).map ptC) qP (by rw [List.map_append, List.append_nil]; rfl) ?_))
  exact zV ⟨j2, n5 + 1, _, _, (intR (idR q).2 32768).2, acc ++ [((idR q).1, ((intR (idR q).2 32768).1 : Int))], ⟨hI.next hqe, by rw [List.length_append, hac]; rfl⟩, R, R, R, R⟩ qI (.c 6 R <| zd _) (.c 2 R <| .c 4 R <| .c 5 R <| zd _) qD qD qF
 try simp only [dq] at h23
 have hwf : ¬ (0 < j ∧ q.err = 0) := fun e => by have := hw.2 e; rw [h23] at this; cases this
 refine y4 (zG (zG (y5 (z8 (ze (ze ?_))))))
 have hst := hI.stop (z_or hwf)
 rw [← h3] at hst
 subst hst
 have hac8 : acc.length ≤ 8 := Nat.le_trans hl3 hl2
 refine zt (E R R (zp R (ev1 R) qD qS (bclose_spec (b := q)) ?_))
 rintro _ _ _ ⟨rfl, rfl, rfl⟩
 refine zm qA qA ?_
 refine V R R (zu (yQ (rows := acc.map ptC) qP ?_))
 refine z8 (O (E R R (zZ R R R (I (zA R (fun h40 => ?_) (fun h40 => ?_))))))
 ·try simp only [dq] at h40
  refine O (yq R bu266 (zQ (out := [Value.int .i64 0, Value.slice none 0 0]) R) ?_)
  refine E R R (zz ag266 R R qL qO qU qW ?_)
  refine V R R (zu (yM (sz := 33) (e := 73) ?_))
  refine y3 qP (show own 33 73 none 0 0 [] = own 33 73 none 0 0 ((([] : List Pt)).map ptC) from R) ?_
  refine yQ (rows := ([] : List Pt).map ptC) qP ?_
  refine z8 (zo (zL ?_))
  rw [if_pos h40] at hP
  rw [hP]
  exact yW R ag266 R qN R ⟨none, 0, 0, R, R, R, R⟩ qD qF
 try simp only [dq] at h40
 refine zq (z8 (ze (O (zx R ag266 R qN ?_))))
 refine zH R (ev1 R) qD qS (ncheck_spec (k := z1.1) (ps := acc) jO (fun p hp => ⟨(hin p hp).1, Int.le_trans (hin p hp).2 jD⟩)) jF ?_
 refine V R R (I (O (E R R (zZ R R R (I (zA R (fun h46 => ?_) (fun h46 => ?_)))))))
 ·try simp only [dq] at h46
  refine O (yq R bu266 (zQ (out := [Value.int .i64 0, Value.slice none 0 0]) R) ?_)
  refine E R R (zz ag266 R R qL qO qU qW ?_)
  refine V R R (zu (yM (sz := 33) (e := 73) ?_))
  refine y3 qP (show own 33 73 none 0 0 [] = own 33 73 none 0 0 ((([] : List Pt)).map ptC) from R) ?_
  refine yQ (rows := ([] : List Pt).map ptC) qP ?_
  refine z8 (zo (zL ?_))
  rw [if_neg h40, if_pos h46] at hP
  rw [hP]
  exact yW R ag266 R qN R ⟨none, 0, 0, R, R, R, R⟩ qD qF
 try simp only [dq] at h46
 refine zq (z8 (O (zx R ag266 R qN ?_)))
 refine zz ag266 R R qL qO qU qW ?_
 refine V R R (I (zo ?_))
 rw [if_neg h40, if_neg h46] at hP
 rw [hP]
 exact yW R ag266 R qN R ⟨_, _, _, R, hac, R, R⟩ qD qF
end Cv
