/-
  The walks: the law on trees of infos.
-/
import Derived.Test.YtcilkdnbbebjgaaGreatQa11
import Derived.Test.YtcilkdnbbebjgaaGreatK06
import Derived.Test.YtcilkdnbbebjgaaGreatProg
import Derived.KernelRfl
set_option linter.unusedVariables false
set_option linter.unusedSimpArgs false
set_option linter.unusedSectionVars false
set_option maxRecDepth 10000
namespace Cv
open Go Go.Proofs
/-! ## chunks and levels: plain laws -/
structure CutO (s : CutS) (l : List UInt8) : Prop where
  good : ∀ c ∈ s.1, ¬ badC c
  open_ : s.2.length < 256
  all : s.1.flatten ++ s.2 = l
theorem cut_o {T : List Int} : ∀ {l : List UInt8} {s : CutS} {p : List UInt8}, CutO s p → CutO (cutW T s l) (p ++ l)
  | [], s, p, h => by rw [List.append_nil]; exact h
  | c :: l, s, p, h => by
    have h1 : CutO (cutS T s c) (p ++ [c]) := by
      by_cases e : endB (s.2.length + 1) (rollN T (rollL T s.2) c) = true
      · rw [cutS_yes e]
        refine ⟨fun x hx => ?_, by show 0 < 256; decide, ?_⟩
        · rcases List.mem_append.1 hx with q | q
          · exact h.good x q
          · obtain rfl : x = s.2 ++ [c] := by simpa using q
            have := h.open_
            simp only [badC, not_or]
            exact ⟨by simp, by rw [List.length_append]; simp only [List.length_singleton]; omega⟩
        · rw [← h.all]; simp
      · have e' : endB (s.2.length + 1) (rollN T (rollL T s.2) c) = false := by simpa using e
        rw [cutS_no e']
        refine ⟨h.good, ?_, by rw [← h.all]; simp⟩
        have h2 := of_decide_eq_false e'
        have := h.open_
        show (s.2 ++ [c]).length < 256
        rw [List.length_append]; simp only [List.length_singleton]
        omega
    have h2 := cut_o (T := T) (l := l) h1
    rw [List.append_assoc] at h2
    exact h2
theorem chn_good {T : List Int} {s : List UInt8} : (∀ c ∈ chnF T s, ¬ badC c) ∧ (chnF T s).flatten = s := by
  have h := cut_o (T := T) (l := s) (s := ([], [])) (p := []) ⟨by simp, by show 0 < 256; decide, rfl⟩
  rw [List.nil_append] at h
  constructor
  · intro c hc
    unfold chnF at hc
    rcases List.mem_append.1 hc with q | q
    · exact h.good c q
    · unfold lastC at q
      split at q
      · simp at q
      · rename_i hq
        obtain rfl : c = _ := by simpa using q
        have := h.open_
        simp only [badC, not_or]
        exact ⟨hq, by omega⟩
  · unfold chnF
    rw [List.flatten_append]
    have e : (lastC (cutW T ([], []) s).2).flatten = (cutW T ([], []) s).2 := by
      unfold lastC
      split
      · rename_i hq; rw [hq]; rfl
      · simp
    rw [e, h.all]
theorem size_flat (cs : List (List UInt8)) : sizeP (cs.map lf) = (cs.flatten.length : Int) := by
  induction cs with
  | nil => rfl
  | cons c cs ih =>
    rw [show (c :: cs).map lf = [lf c] ++ cs.map lf from rfl, sizeI_app, ih, List.flatten_cons, List.length_append]
    have : sizeP [lf c] = (c.length : Int) := by show (0 : Int) + (c.length : Int) = _; omega
    rw [this]; omega
theorem lvR_out : ∀ (f k : Nat) (ps : List Pt) (os : List Ob), 1 ≤ ps.length → (k = 1 ∧ ps.length + 1 ≤ f) ∨ (2 ≤ k ∧ ps.length ≤ f) →
    ∃ p ns, (lvR f k ps os = ([p], os ++ ns) ∧ ns.length ≤ f * ps.length) ∧ p.2 = sizeP ps ∧ (∀ o ∈ ns, o.1 = 2) ∧ (k = 1 → ns ≠ []) ∧ (ns = [] → ps = [p]) ∧ (ns ≠ [] → (ns.getLast?).map (·.2.1) = some p.1)
  | 0, k, ps, os, h1, h => by omega
  | f + 1, k, ps, os, h1, h => by
    by_cases c : k = 1 ∨ 1 < ps.length
    · have hg : gN ps.length = (ps.length + 7) / 8 := rfl
      have hu := @upP_len k ps
      have hv := @upO_len k ps
      obtain ⟨p, ns, ⟨e1, e0⟩, e2, e3, e4, e5, e6⟩ := lvR_out f (k + 1) (upP k ps) (os ++ upO k ps) (by rw [hu, hg]; omega) (.inr ⟨by omega, by rw [hu, hg]; omega⟩)
      have hne : upO k ps ≠ [] := fun q => by rw [q] at hv; simp only [List.length_nil] at hv; omega
      have hle : gN ps.length ≤ ps.length := by rw [hg]; omega
      have hmul : f * gN ps.length ≤ f * ps.length := Nat.mul_le_mul_left _ hle
      refine ⟨p, upO k ps ++ ns, ⟨by rw [lvR_s c, e1, List.append_assoc], by rw [List.length_append, hv, Nat.add_mul, Nat.one_mul]; rw [hu] at e0; omega⟩, by rw [e2, size_up], fun o ho => ?_, fun _ q => hne (List.append_eq_nil_iff.1 q).1, fun q => absurd (List.append_eq_nil_iff.1 q).1 hne, fun _ => ?_⟩
      · rcases List.mem_append.1 ho with q | q
        · obtain ⟨g, _, rfl⟩ := List.mem_map.1 q; rfl
        · exact e3 o q
      · by_cases hn : ns = []
        · subst hn
          have h5 := e5 rfl
          rw [List.append_nil]
          have hl1 : (upP k ps).length = 1 := by rw [h5]; rfl
          have e : grps ps = [grp ps 0] := by
            rw [hu] at hl1
            show (List.range (gN ps.length)).map (grp ps) = _
            rw [hl1]; rfl
          unfold upO
          unfold upP at h5
          rw [e] at h5 ⊢
          have h6 : upt k (grp ps 0) = p := by simpa using h5
          show some (uob k (grp ps 0)).2.1 = some p.1
          rw [← h6]; rfl
        · have : (upO k ps ++ ns).getLast? = ns.getLast? := by
            rw [List.getLast?_append]
            cases hq : ns.getLast? with
            | none => exact absurd (List.getLast?_eq_none_iff.1 hq) hn
            | some v => rfl
          rw [this]; exact e6 hn
    · refine ⟨gd ps 0, [], ⟨?_, by simp⟩, ?_, by simp, fun q => absurd (.inl q) c, fun _ => ?_, fun q => absurd rfl q⟩
      · rw [lvR_z c, List.append_nil]
        match ps, h1, c with
        | [p], _, _ => rfl
        | p :: q :: l, _, c => exact absurd (.inr (by simp only [List.length_cons]; omega)) c
      · match ps, h1, c with
        | [p], _, _ => show p.2 = 0 + p.2; omega
        | p :: q :: l, _, c => exact absurd (.inr (by simp only [List.length_cons]; omega)) c
      · match ps, h1, c with
        | [p], _, _ => rfl
        | p :: q :: l, _, c => exact absurd (.inr (by simp only [List.length_cons]; omega)) c
theorem bld_out {cs : List (List UInt8)} (h : ∀ c ∈ cs, ¬ badC c) (h0 : 1 ≤ cs.flatten.length) (h1 : cs.flatten.length ≤ 32768) :
    ∃ p ns, (bldM cs = (p, cs.map lo ++ ns, 0) ∧ (cs.map lo ++ ns).length ≤ 2000000000) ∧ p.2 = (cs.flatten.length : Int) ∧ (∀ o ∈ ns, o.1 = 2) ∧ ns ≠ [] ∧ (ns.getLast?).map (·.2.1) = some p.1 := by
  have hz : sizeI (cs.map lf) cs.length = (cs.flatten.length : Int) := by
    rw [← size_flat]; unfold sizeP; rw [List.length_map]
  have hl : 1 ≤ cs.length := Nat.pos_of_ne_zero fun q => by
    obtain rfl : cs = [] := List.length_eq_zero_iff.1 q
    simp at h0
  obtain ⟨p, ns, ⟨e1, e0⟩, e2, e3, e4, -, e6⟩ := lvR_out (cs.length + 1) 1 (cs.map lf) (cs.map lo) (by rw [List.length_map]; exact hl) (.inl ⟨rfl, by rw [List.length_map]; omega⟩)
  have hge := size_ge (ps := cs.map lf) (fun p hp => (good_size h p hp).1) cs.length (by rw [List.length_map]; exact Nat.le_refl _)
  have hcl : cs.length ≤ 32768 := by omega
  have hm : (cs.length + 1) * cs.length ≤ 32769 * 32768 := Nat.mul_le_mul (by omega) hcl
  rw [List.length_map] at e0
  exact ⟨p, ns, ⟨bld_ok h (by omega) (by omega) e1, by rw [List.length_append, List.length_map]; omega⟩, by rw [e2, size_flat], e3, e4 rfl, e6 (e4 rfl)⟩
theorem ofB_out {x : Tr} (h : 1 ≤ (wrS x).length) : ∃ p ns, (ofB x = (p, (chnF (gearT seedS) (wrS x)).map lo ++ ns, 0) ∧ ((chnF (gearT seedS) (wrS x)).map lo ++ ns).length ≤ 2000000000) ∧ p.2 = ((wrS x).length : Int) ∧ (∀ o ∈ ns, o.1 = 2) ∧ ns ≠ [] ∧ (ns.getLast?).map (·.2.1) = some p.1 := by
  obtain ⟨h1, h2⟩ := chn_good (T := gearT seedS) (s := wrS x)
  have h3 := wrS_len x
  have := bld_out h1 (by rw [h2]; exact h) (by rw [h2]; exact h3)
  rw [h2] at this
  exact this
theorem sz56 : Sz Tryz.prog 56 34 := fun w => by kernel_rfl
theorem fo56_2 : Fo Tryz.prog 56 2 33 := fun a w => by kernel_rfl
end Cv
