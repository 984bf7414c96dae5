/-
  The walks: names, sorted.
-/
import Derived.Test.YtahkbpiinbepcaaGreatAA15
import Derived.Test.YtahkbpiinbepcaaGreatProg
import Derived.KernelRfl
set_option linter.unusedVariables false
set_option linter.unusedSimpArgs false
set_option linter.unusedSectionVars false
set_option maxHeartbeats 400000
set_option maxRecDepth 10000
namespace Cv
open Go Go.Proofs
/-! ## what awake of chapter 11 asks: plain laws -/
theorem asc_uniq : ∀ {l m : List ID32}, l.Pairwise (fun x y => x.1 < y.1) → m.Pairwise (fun x y => x.1 < y.1) → (∀ z, z ∈ l ↔ z ∈ m) → l = m
  | [], [], _, _, _ => rfl
  | [], y :: m, _, _, h => absurd ((h y).2 (List.mem_cons_self ..)) (by simp)
  | x :: l, [], _, _, h => absurd ((h x).1 (List.mem_cons_self ..)) (by simp)
  | x :: l, y :: m, hl, hm, h => by
    obtain ⟨l1, l2⟩ := List.pairwise_cons.1 hl
    obtain ⟨m1, m2⟩ := List.pairwise_cons.1 hm
    have irr : ∀ {a b : ID32}, a.1 < b.1 → a ≠ b := fun {a b} k e => by
      subst e; exact cfI_irr a (cmpB_lt.2 k)
    have e : x = y := by
      rcases List.mem_cons.1 ((h x).1 (List.mem_cons_self ..)) with a | a
      · exact a
      · rcases List.mem_cons.1 ((h y).2 (List.mem_cons_self ..)) with b | b
        · exact b.symm
        · exact absurd (cmpB_lt.2 (l1 y b)) (cfI_swo.asym _ _ (cmpB_lt.2 (m1 x a)))
    subst e
    congr 1
    refine asc_uniq l2 m2 fun z => ⟨fun hz => ?_, fun hz => ?_⟩
    · rcases List.mem_cons.1 ((h z).1 (List.mem_cons_of_mem _ hz)) with a | a
      · exact absurd a.symm (irr (l1 z hz))
      · exact a
    · rcases List.mem_cons.1 ((h z).2 (List.mem_cons_of_mem _ hz)) with a | a
      · exact absurd a.symm (irr (m1 z hz))
      · exact a
theorem names_uniq {xs l m : List ID32} (h : NamesF xs l) (k : NamesF xs m) : l = m := asc_uniq h.asc k.asc fun z => (h.mem z).trans (k.mem z).symm
/-! ## chunks and levels: plain laws -/
structure CutO (s : CutS) (l : List UInt8) : Prop where
  good : ∀ c ∈ s.1, ¬ badC c
  open_ : s.2.length < 256
  all : s.1.flatten ++ s.2 = l
theorem cut_o {T : List Int} : ∀ {l : List UInt8} {s : CutS} {p : List UInt8}, CutO s p → CutO (cutW T s l) (p ++ l)
  | [], s, p, h => by rw [List.append_nil]; exact h
  | c :: l, s, p, h => by
    have h1 : CutO (cutS T s c) (p ++ [c]) := by
      by_cases e : endB (s.2.length + 1) (rollN T (rollL T s.2) c) = true
      · rw [cutS_yes e]
        refine ⟨fun x hx => ?_, by show 0 < 256; decide, ?_⟩
        · rcases List.mem_append.1 hx with q | q
          · exact h.good x q
          · obtain rfl : x = s.2 ++ [c] := by simpa using q
            have := h.open_
            simp only [badC, not_or]
            exact ⟨by simp, by rw [List.length_append]; simp only [List.length_singleton]; omega⟩
        · rw [← h.all]; simp
      · have e' : endB (s.2.length + 1) (rollN T (rollL T s.2) c) = false := by simpa using e
        rw [cutS_no e']
        refine ⟨h.good, ?_, by rw [← h.all]; simp⟩
        have h2 := of_decide_eq_false e'
        have := h.open_
        show (s.2 ++ [c]).length < 256
        rw [List.length_append]; simp only [List.length_singleton]
        omega
    have h2 := cut_o (T := T) (l := l) h1
    rw [List.append_assoc] at h2
    exact h2
theorem chn_good {T : List Int} {s : List UInt8} : (∀ c ∈ chnF T s, ¬ badC c) ∧ (chnF T s).flatten = s := by
  have h := cut_o (T := T) (l := s) (s := ([], [])) (p := []) ⟨by simp, by show 0 < 256; decide, rfl⟩
  rw [List.nil_append] at h
  constructor
  · intro c hc
    unfold chnF at hc
    rcases List.mem_append.1 hc with q | q
    · exact h.good c q
    · unfold lastC at q
      split at q
      · simp at q
      · rename_i hq
        obtain rfl : c = _ := by simpa using q
        have := h.open_
        simp only [badC, not_or]
        exact ⟨hq, by omega⟩
  · unfold chnF
    rw [List.flatten_append]
    have e : (lastC (cutW T ([], []) s).2).flatten = (cutW T ([], []) s).2 := by
      unfold lastC
      split
      · rename_i hq; rw [hq]; rfl
      · simp
    rw [e, h.all]
theorem size_flat (cs : List (List UInt8)) : sizeP (cs.map lf) = (cs.flatten.length : Int) := by
  induction cs with
  | nil => rfl
  | cons c cs ih =>
    rw [show (c :: cs).map lf = [lf c] ++ cs.map lf from rfl, sizeI_app, ih, List.flatten_cons, List.length_append]
    have : sizeP [lf c] = (c.length : Int) := by show (0 : Int) + (c.length : Int) = _; omega
    rw [this]; omega
theorem lvR_out : ∀ (f k : Nat) (ps : List Pt) (os : List Ob), 1 ≤ ps.length → (k = 1 ∧ ps.length + 1 ≤ f) ∨ (2 ≤ k ∧ ps.length ≤ f) →
    ∃ p ns, (lvR f k ps os = ([p], os ++ ns) ∧ ns.length ≤ f * ps.length) ∧ p.2 = sizeP ps ∧ (∀ o ∈ ns, o.1 = 2) ∧ (k = 1 → ns ≠ []) ∧ (ns = [] → ps = [p]) ∧ (ns ≠ [] → (ns.getLast?).map (·.2.1) = some p.1)
  | 0, k, ps, os, h1, h => by omega
  | f + 1, k, ps, os, h1, h => by
    by_cases c : k = 1 ∨ 1 < ps.length
    · have hg : gN ps.length = (ps.length + 7) / 8 := rfl
      have hu := @upP_len k ps
      have hv := @upO_len k ps
      obtain ⟨p, ns, ⟨e1, e0⟩, e2, e3, e4, e5, e6⟩ := lvR_out f (k + 1) (upP k ps) (os ++ upO k ps) (by rw [hu, hg]; omega) (.inr ⟨by omega, by rw [hu, hg]; omega⟩)
      have hne : upO k ps ≠ [] := fun q => by rw [q] at hv; simp only [List.length_nil] at hv; omega
      have hle : gN ps.length ≤ ps.length := by rw [hg]; omega
      have hmul : f * gN ps.length ≤ f * ps.length := Nat.mul_le_mul_left _ hle
      refine ⟨p, upO k ps ++ ns, ⟨by rw [lvR_s c, e1, List.append_assoc], by rw [List.length_append, hv, Nat.add_mul, Nat.one_mul]; rw [hu] at e0; omega⟩, by rw [e2, size_up], fun o ho => ?_, fun _ q => hne (List.append_eq_nil_iff.1 q).1, fun q => absurd (List.append_eq_nil_iff.1 q).1 hne, fun _ => ?_⟩
      · rcases List.mem_append.1 ho with q | q
        · obtain ⟨g, _, rfl⟩ := List.mem_map.1 q; rfl
        · exact e3 o q
      · by_cases hn : ns = []
        · subst hn
          have h5 := e5 rfl
          rw [List.append_nil]
          have hl1 : (upP k ps).length = 1 := by rw [h5]; rfl
          have e : grps ps = [grp ps 0] := by
            rw [hu] at hl1
            show (List.range (gN ps.length)).map (grp ps) = _
            rw [hl1]; rfl
          unfold upO
          unfold upP at h5
          rw [e] at h5 ⊢
          have h6 : upt k (grp ps 0) = p := by simpa using h5
          show some (uob k (grp ps 0)).2.1 = some p.1
          rw [← h6]; rfl
        · have : (upO k ps ++ ns).getLast? = ns.getLast? := by
            rw [List.getLast?_append]
            cases hq : ns.getLast? with
            | none => exact absurd (List.getLast?_eq_none_iff.1 hq) hn
            | some v => rfl
          rw [this]; exact e6 hn
    · refine ⟨gd ps 0, [], ⟨?_, by simp⟩, ?_, by simp, fun q => absurd (.inl q) c, fun _ => ?_, fun q => absurd rfl q⟩
      · rw [lvR_z c, List.append_nil]
        match ps, h1, c with
        | [p], _, _ => rfl
        | p :: q :: l, _, c => exact absurd (.inr (by simp only [List.length_cons]; omega)) c
      · match ps, h1, c with
        | [p], _, _ => show p.2 = 0 + p.2; omega
        | p :: q :: l, _, c => exact absurd (.inr (by simp only [List.length_cons]; omega)) c
      · match ps, h1, c with
        | [p], _, _ => rfl
        | p :: q :: l, _, c => exact absurd (.inr (by simp only [List.length_cons]; omega)) c
theorem bld_out {cs : List (List UInt8)} (h : ∀ c ∈ cs, ¬ badC c) (h0 : 1 ≤ cs.flatten.length) (h1 : cs.flatten.length ≤ 32768) :
    ∃ p ns, (bldM cs = (p, cs.map lo ++ ns, 0) ∧ (cs.map lo ++ ns).length ≤ 2000000000) ∧ p.2 = (cs.flatten.length : Int) ∧ (∀ o ∈ ns, o.1 = 2) ∧ ns ≠ [] ∧ (ns.getLast?).map (·.2.1) = some p.1 := by
  have hz : sizeI (cs.map lf) cs.length = (cs.flatten.length : Int) := by
    rw [← size_flat]; unfold sizeP; rw [List.length_map]
  have hl : 1 ≤ cs.length := Nat.pos_of_ne_zero fun q => by
    obtain rfl : cs = [] := List.length_eq_zero_iff.1 q
    simp at h0
  obtain ⟨p, ns, ⟨e1, e0⟩, e2, e3, e4, -, e6⟩ := lvR_out (cs.length + 1) 1 (cs.map lf) (cs.map lo) (by rw [List.length_map]; exact hl) (.inl ⟨rfl, by rw [List.length_map]; omega⟩)
  have hge := size_ge (ps := cs.map lf) (fun p hp => (good_size h p hp).1) cs.length (by rw [List.length_map]; exact Nat.le_refl _)
  have hcl : cs.length ≤ 32768 := by omega
  have hm : (cs.length + 1) * cs.length ≤ 32769 * 32768 := Nat.mul_le_mul (by omega) hcl
  rw [List.length_map] at e0
  exact ⟨p, ns, ⟨bld_ok h (by omega) (by omega) e1, by rw [List.length_append, List.length_map]; omega⟩, by rw [e2, size_flat], e3, e4 rfl, e6 (e4 rfl)⟩
theorem ofB_out {x : Tr} (h : 1 ≤ (wrS x).length) : ∃ p ns, (ofB x = (p, (chnF (gearT seedS) (wrS x)).map lo ++ ns, 0) ∧ ((chnF (gearT seedS) (wrS x)).map lo ++ ns).length ≤ 2000000000) ∧ p.2 = ((wrS x).length : Int) ∧ (∀ o ∈ ns, o.1 = 2) ∧ ns ≠ [] ∧ (ns.getLast?).map (·.2.1) = some p.1 := by
  obtain ⟨h1, h2⟩ := chn_good (T := gearT seedS) (s := wrS x)
  have h3 := wrS_len x
  have := bld_out h1 (by rw [h2]; exact h) (by rw [h2]; exact h3)
  rw [h2] at this
  exact this
/-! ### where the first chunk ends -/
def endG (T : List Int) (s : List UInt8) : Nat → Nat → Nat
  | 0, _ => s.length
  | f + 1, n => if endB n (rollL T (s.take n)) then n else endG T s f (n + 1)
def endR (T : List Int) (s : List UInt8) : Nat := endG T s s.length 1
theorem endG_t {T : List Int} {s : List UInt8} {f n : Nat} (h : endB n (rollL T (s.take n)) = true) : endG T s (f + 1) n = n := by unfold endG; rw [if_pos h]
theorem endG_f {T : List Int} {s : List UInt8} {f n : Nat} (h : endB n (rollL T (s.take n)) = false) : endG T s (f + 1) n = endG T s f (n + 1) := by rw [endG, if_neg (by rw [h]; decide)]
structure EndI (T : List Int) (s : List UInt8) (j : Nat) : Prop where
  le : j ≤ s.length
  no : ∀ i, 1 ≤ i → i ≤ j → endB i (rollL T (s.take i)) = false
  eq : endR T s = endG T s (s.length - j) (j + 1)
theorem EndI.zero (T : List Int) (s : List UInt8) : EndI T s 0 := ⟨Nat.zero_le _, fun i h1 h2 => by omega, rfl⟩
theorem EndI.next {T : List Int} {s : List UInt8} {j : Nat} (h : EndI T s j) (hj : j < s.length) (e : endB (j + 1) (rollL T (s.take (j + 1))) = false) : EndI T s (j + 1) :=
  ⟨hj, fun i h1 h2 => by
    rcases Nat.lt_or_ge i (j + 1) with q | q
    · exact h.no i h1 (by omega)
    · obtain rfl : i = j + 1 := by omega
      exact e, by rw [h.eq, show s.length - j = (s.length - (j + 1)) + 1 by omega, endG_f e]⟩
theorem EndI.hit {T : List Int} {s : List UInt8} {j : Nat} (h : EndI T s j) (hj : j < s.length) (e : endB (j + 1) (rollL T (s.take (j + 1))) = true) : endR T s = j + 1 := by
  rw [h.eq, show s.length - j = (s.length - (j + 1)) + 1 by omega, endG_t e]
theorem EndI.fin {T : List Int} {s : List UInt8} (h : EndI T s s.length) : endR T s = s.length := by rw [h.eq, Nat.sub_self]; rfl
theorem endI_all (T : List Int) (s : List UInt8) : ∀ f j, j + f = s.length → EndI T s j → (∃ n, EndI T s n ∧ n < s.length ∧ endB (n + 1) (rollL T (s.take (n + 1))) = true) ∨ EndI T s s.length
  | 0, j, h, hI => .inr (by rw [← h]; exact hI)
  | f + 1, j, h, hI => by
    cases e : endB (j + 1) (rollL T (s.take (j + 1))) with
    | true => exact .inl ⟨j, hI, by omega, e⟩
    | false => exact endI_all T s f (j + 1) (by omega) (hI.next (by omega) e)
theorem cutW_no {T : List Int} {s : List UInt8} : ∀ j, j ≤ s.length → (∀ i, 1 ≤ i → i ≤ j → endB i (rollL T (s.take i)) = false) → cutW T ([], []) (s.take j) = ([], s.take j)
  | 0, _, _ => rfl
  | j + 1, h, k => by
    have hg : s[j]? = some (gd s j) := zJ (by omega)
    have ht : s.take (j + 1) = s.take j ++ [gd s j] := by rw [List.take_add_one, hg]; rfl
    have hl : (s.take j).length = j := by rw [List.length_take]; omega
    rw [cutW_s hg, cutW_no j (by omega) (fun i h1 h2 => k i h1 (by omega))]
    have e := k (j + 1) (by omega) (Nat.le_refl _)
    rw [ht, rollL_s] at e
    rw [cutS_no (by show endB ((s.take j).length + 1) _ = false; rw [hl]; exact e), ht]
theorem cutW_pre {T : List Int} : ∀ (l : List UInt8) (u : List (List UInt8)) (q : List UInt8), cutW T (u, q) l = (u ++ (cutW T ([], q) l).1, (cutW T ([], q) l).2)
  | [], u, q => by show (u, q) = (u ++ [], q); rw [List.append_nil]
  | c :: l, u, q => by
    show cutW T (cutS T (u, q) c) l = (u ++ (cutW T (cutS T ([], q) c) l).1, (cutW T (cutS T ([], q) c) l).2)
    by_cases e : endB (q.length + 1) (rollN T (rollL T q) c) = true
    · rw [cutS_yes (s := (u, q)) e, cutS_yes (s := ([], q)) e, cutW_pre l (u ++ [q ++ [c]]), cutW_pre l ([] ++ [q ++ [c]])]
      simp
    · have e' : endB (q.length + 1) (rollN T (rollL T q) c) = false := by simpa using e
      rw [cutS_no (s := (u, q)) e', cutS_no (s := ([], q)) e', cutW_pre l u]
theorem endR_in {T : List Int} {s : List UInt8} (h : s ≠ []) : 1 ≤ endR T s ∧ endR T s ≤ s.length := by
  have hl := List.length_pos_iff.2 h
  rcases endI_all T s s.length 0 (Nat.zero_add _) (.zero T s) with ⟨n, hI, hn, e⟩ | hI
  · rw [hI.hit hn e]; omega
  · rw [hI.fin]; omega
theorem chn_step {T : List Int} {s : List UInt8} (h : s ≠ []) : chnF T s = s.take (endR T s) :: chnF T (s.drop (endR T s)) := by
  rcases endI_all T s s.length 0 (Nat.zero_add _) (.zero T s) with ⟨n, hI, hn, e⟩ | hI
  · rw [hI.hit hn e]
    have hg : s[n]? = some (gd s n) := zJ hn
    have ht : s.take (n + 1) = s.take n ++ [gd s n] := by rw [List.take_add_one, hg]; rfl
    have hl : (s.take n).length = n := by rw [List.length_take]; omega
    have h1 : cutW T ([], []) (s.take (n + 1)) = ([s.take (n + 1)], []) := by
      rw [cutW_s hg, cutW_no n hI.le hI.no]
      rw [ht, rollL_s] at e
      rw [cutS_yes (by show endB ((s.take n).length + 1) _ = true; rw [hl]; exact e), ht]; rfl
    have h2 : cutW T ([], []) s = ([s.take (n + 1)] ++ (cutW T ([], []) (s.drop (n + 1))).1, (cutW T ([], []) (s.drop (n + 1))).2) := by
      rw [← cutW_pre, ← h1]
      show _ = (s.drop (n + 1)).foldl (cutS T) ((s.take (n + 1)).foldl (cutS T) ([], []))
      rw [← List.foldl_append, List.take_append_drop]; rfl
    unfold chnF
    rw [h2]; rfl
  · rw [hI.fin, List.drop_length, List.take_length]
    have h1 := cutW_no (T := T) s.length (Nat.le_refl _) hI.no
    rw [List.take_length] at h1
    unfold chnF
    rw [h1]
    show [] ++ lastC s = s :: ([] ++ lastC [])
    unfold lastC
    rw [if_neg h, if_pos rfl]; rfl
theorem chn_nil {T : List Int} : chnF T [] = [] := rfl
/-! ### names with one more -/
def wthS (z : ID32) (s : List ID32 × Bool) (x : ID32) : List ID32 × Bool :=
  if !s.2 && (bless z.1 x.1 || decide (z.1 = x.1)) then (if x.1 ≠ z.1 then s.1 ++ [z] ++ [x] else s.1 ++ [z], true) else (if x.1 ≠ z.1 then s.1 ++ [x] else s.1, s.2)
def wthL (l : List ID32) (z : ID32) : List ID32 × Bool := l.foldl (wthS z) ([], false)
def withF (l : List ID32) (z : ID32) : List ID32 := if (wthL l z).2 then (wthL l z).1 else (wthL l z).1 ++ [z]
theorem wthL_s {l : List ID32} {z x : ID32} {i : Nat} (h : l[i]? = some x) : wthL (l.take (i + 1)) z = wthS z (wthL (l.take i) z) x := by
  unfold wthL; rw [List.take_add_one, h, List.foldl_append]; rfl
theorem wth_true (z : ID32) : ∀ (l : List ID32) (o : List ID32), l.foldl (wthS z) (o, true) = (o ++ l.filter (fun x => decide (x ≠ z)), true)
  | [], o => by simp
  | x :: l, o => by
    show l.foldl (wthS z) (wthS z (o, true) x) = _
    by_cases e : x = z
    · subst e
      have : wthS x (o, true) x = (o, true) := by unfold wthS; simp
      rw [this, wth_true x l o]; simp
    · have e2 : x.1 ≠ z.1 := fun q => e (Subtype.ext q)
      have : wthS z (o, true) x = (o ++ [x], true) := by unfold wthS; simp [e2]
      rw [this, wth_true z l (o ++ [x])]
      simp [e]
def insW (z : ID32) : List ID32 → List ID32
  | [] => [z]
  | x :: l => if bless z.1 x.1 || decide (z.1 = x.1) then z :: (x :: l).filter (fun x => decide (x ≠ z)) else x :: insW z l
theorem wth_ins (z : ID32) : ∀ (l o : List ID32), (if (l.foldl (wthS z) (o, false)).2 then (l.foldl (wthS z) (o, false)).1 else (l.foldl (wthS z) (o, false)).1 ++ [z]) = o ++ insW z l
  | [], o => rfl
  | x :: l, o => by
    have e0 : (x :: l).foldl (wthS z) (o, false) = l.foldl (wthS z) (wthS z (o, false) x) := rfl
    rw [e0]
    by_cases c : (bless z.1 x.1 || decide (z.1 = x.1)) = true
    · have e1 : insW z (x :: l) = z :: (x :: l).filter (fun x => decide (x ≠ z)) := by rw [insW, if_pos c]
      rw [e1]
      by_cases e : x = z
      · subst e
        have : wthS x (o, false) x = (o ++ [x], true) := by unfold wthS; rw [if_pos (by rw [c]; rfl)]; simp
        rw [this, wth_true]; simp
      · have e2 : x.1 ≠ z.1 := fun q => e (Subtype.ext q)
        have : wthS z (o, false) x = (o ++ [z] ++ [x], true) := by unfold wthS; rw [if_pos (by rw [c]; rfl)]; simp [e2]
        rw [this, wth_true]; simp [e]
    · have e1 : insW z (x :: l) = x :: insW z l := by rw [insW, if_neg c]
      have ne : x.1 ≠ z.1 := fun q => c (by rw [q]; simp)
      have : wthS z (o, false) x = (o ++ [x], false) := by unfold wthS; rw [if_neg (by simpa using c)]; simp [ne]
      rw [this, wth_ins z l (o ++ [x]), e1]; simp
theorem withF_ins (l : List ID32) (z : ID32) : withF l z = insW z l := by
  have := wth_ins z l []
  rw [List.nil_append] at this; exact this
theorem id_lt_trans {x y z : ID32} (h : x.1 < y.1) (k : y.1 < z.1) : x.1 < z.1 := cmpB_lt.1 (cmpB_trans (cmpB_lt.2 h) (cmpB_lt.2 k))
theorem insW_asc (z : ID32) : ∀ {l : List ID32}, l.Pairwise (fun x y => x.1 < y.1) → (insW z l).Pairwise (fun x y => x.1 < y.1) ∧ ∀ w, w ∈ insW z l ↔ w ∈ l ∨ w = z
  | [], _ => ⟨List.pairwise_singleton _ _, fun w => by simp [insW]⟩
  | x :: l, h => by
    obtain ⟨h1, h2⟩ := List.pairwise_cons.1 h
    by_cases c : (bless z.1 x.1 || decide (z.1 = x.1)) = true
    · rw [insW, if_pos c]
      have hzx : z.1 < x.1 ∨ z = x := by
        rcases Bool.or_eq_true_iff.1 c with q | q
        · exact .inl (cmpB_lt.1 (bless_iff.1 q))
        · exact .inr (Subtype.ext (of_decide_eq_true q))
      constructor
      · refine List.pairwise_cons.2 ⟨fun w hw => ?_, h.filter _⟩
        obtain ⟨hw1, hw2⟩ := List.mem_filter.1 hw
        have hwz : w ≠ z := by simpa using hw2
        rcases List.mem_cons.1 hw1 with q | q
        · subst q; exact hzx.resolve_right fun e => hwz e.symm
        · rcases hzx with q2 | q2
          · exact id_lt_trans q2 (h1 w q)
          · rw [q2]; exact h1 w q
      · intro w
        rw [List.mem_cons, List.mem_filter]
        by_cases e : w = z
        · simp [e]
        · simp [e]
    · rw [insW, if_neg c]
      obtain ⟨i1, i2⟩ := insW_asc z h2
      have hxz : x.1 < z.1 := by
        have n1 : ¬ cmpB z.1 x.1 < 0 := fun q => c (by rw [bless_iff.2 q]; rfl)
        have n2 : cmpB z.1 x.1 ≠ 0 := fun q => c (by rw [decide_eq_true (cmpB_eq q)]; simp)
        have n3 := cmpB_neg z.1 x.1
        exact cmpB_lt.1 (by omega)
      constructor
      · refine List.pairwise_cons.2 ⟨fun w hw => ?_, i1⟩
        rcases (i2 w).1 hw with q | q
        · exact h1 w q
        · rw [q]; exact hxz
      · intro w
        rw [List.mem_cons, List.mem_cons, i2]
        constructor
        · rintro (q | q | q) <;> simp [q]
        · rintro ((q | q) | q) <;> simp [q]
def sortF (l : List ID32) : List ID32 := l.foldl withF []
theorem sortF_s {l : List ID32} {x : ID32} {i : Nat} (h : l[i]? = some x) : sortF (l.take (i + 1)) = withF (sortF (l.take i)) x := by
  unfold sortF; rw [List.take_add_one, h, List.foldl_append]; rfl
theorem sortF_go : ∀ (l a : List ID32), a.Pairwise (fun x y => x.1 < y.1) → (l.foldl withF a).Pairwise (fun x y => x.1 < y.1) ∧ ∀ w, w ∈ l.foldl withF a ↔ w ∈ l ∨ w ∈ a
  | [], a, h => ⟨h, fun w => by simp⟩
  | x :: l, a, h => by
    obtain ⟨h1, h2⟩ := insW_asc x h
    rw [← withF_ins] at h1 h2
    obtain ⟨h3, h4⟩ := sortF_go l (withF a x) h1
    refine ⟨h3, fun w => ?_⟩
    show w ∈ l.foldl withF (withF a x) ↔ _
    rw [h4, h2, List.mem_cons]
    constructor
    · rintro (q | q | q) <;> simp [q]
    · rintro ((q | q) | q) <;> simp [q]
theorem sortF_names (l : List ID32) : NamesF l (sortF l) := by
  obtain ⟨h1, h2⟩ := sortF_go l [] List.Pairwise.nil
  exact ⟨h1, fun z => by rw [show sortF l = l.foldl withF [] from rfl, h2]; simp⟩
theorem filt_len (z : ID32) (l : List ID32) : (l.filter (fun x => decide (x ≠ z))).length ≤ l.length := List.length_filter_le _ _
theorem insW_len (z : ID32) : ∀ l : List ID32, (insW z l).length ≤ l.length + 1
  | [] => Nat.le_refl _
  | x :: l => by
    rw [insW]
    split
    · have := filt_len z (x :: l); rw [List.length_cons]; omega
    · have := insW_len z l; rw [List.length_cons, List.length_cons]; omega
theorem sortF_len : ∀ (l : List ID32) (i : Nat), (sortF (l.take i)).length ≤ i := by
  intro l i
  induction i with
  | zero => exact Nat.le_refl _
  | succ i ih =>
    cases h : l[i]? with
    | none => rw [List.take_add_one, h]; simp; omega
    | some x => rw [sortF_s h, withF_ins]; have := insW_len x (sortF (l.take i)); omega
/-! ### levels: at most eight -/
theorem ofI_wr {x : Tr} {l : List ID32} (h : wrE x ≠ 0) : ofI x l = (zP, [], [], wrE x) := by unfold ofI; rw [if_pos h]
theorem ofI_8 {x : Tr} {l : List ID32} (h : wrE x = 0) (k : 8 < l.length) : ofI x l = (zP, [], [], 5) := by unfold ofI; rw [if_neg (fun q => q h), if_pos k]
theorem ofI_b {x : Tr} {l : List ID32} (h : wrE x = 0) (k : ¬ 8 < l.length) (b : (ofB x).2.2 ≠ 0) : ofI x l = (zP, [], [], (ofB x).2.2) := by unfold ofI; rw [if_neg (fun q => q h), if_neg k, if_pos b]
theorem ofI_ok {x : Tr} {l : List ID32} (h : wrE x = 0) (k : ¬ 8 < l.length) (b : (ofB x).2.2 = 0) : ofI x l = ((ofB x).1, l, (ofB x).2.1, 0) := by unfold ofI; rw [if_neg (fun q => q h), if_neg k, if_neg (fun q => q b)]
theorem ofI_or {x : Tr} {l m xs : List ID32} (h : NamesF xs l ∨ wrE x ≠ 0) (k : NamesF xs m) : ofI x l = ofI x m := by
  rcases h with q | q
  · rw [names_uniq q k]
  · rw [ofI_wr q, ofI_wr q]
theorem ofI_len {x : Tr} {l : List ID32} : (ofI x l).2.1.length ≤ 8 := by
  unfold ofI
  split
  · exact Nat.zero_le _
  · split
    · exact Nat.zero_le _
    · split
      · exact Nat.zero_le _
      · rename_i h _; exact Nat.not_lt.1 h
theorem ofI_size {x : Tr} {l : List ID32} (h : (ofI x l).2.2.2 = 0) : 0 ≤ (ofI x l).1.2 ∧ (ofI x l).1.2 ≤ 32768 ∧ ofI x l = ((ofB x).1, l, (ofB x).2.1, 0) ∧ (ofI x l).2.2.1.length ≤ 2000000000 := by
  have hw : wrE x = 0 := Decidable.byContradiction fun q => by rw [ofI_wr q] at h; exact q h
  have h8 : ¬ 8 < l.length := fun q => by rw [ofI_8 hw q] at h; exact absurd h (by decide)
  have hb : (ofB x).2.2 = 0 := Decidable.byContradiction fun q => by rw [ofI_b hw h8 q] at h; exact q h
  rw [ofI_ok hw h8 hb]
  have h1 : 1 ≤ (wrS x).length := Nat.pos_of_ne_zero fun q => by
    have e : wrS x = [] := List.length_eq_zero_iff.1 q
    unfold ofB at hb
    rw [e] at hb
    exact absurd hb (by decide)
  obtain ⟨p, ns, ⟨e1, e2⟩, e3, -⟩ := ofB_out h1
  have hl := wrS_len x
  rw [e1]
  exact ⟨by show 0 ≤ p.2; omega, by show p.2 ≤ 32768; omega, rfl, e2⟩

theorem with_spec {a : Option Addr} {n c : Nat} {l : List ID32} {z : ID32} (hn : n ≤ 1000000) : Spec Tryz.prog 58 [.slice a n c, S z.1] [rsl 1 a n c ((l.map (·.1)).map ys)] [] (fun v D' M' => ∃ (a' : Option Addr) (n' c' : Nat), v = .slice a' n' c' ∧ ((withF l z).length = n') ∧ D' = [] ∧ M' = [own 1 9 a' n' c' (((withF l z).map (·.1)).map ys)]) := by
 refine zC (n := 42) Tryz.func58 ?_
 intro σ D M
 refine yH (rows := (l.map (·.1)).map ys) qM (fun hpl hpc => ?_)
 rw [List.length_map, List.length_map] at hpl
 
 refine z6 (z8 (z9 rfl rfl (z7 (z4 (z6 (z8 (yh rfl bs31 jD (zO (out := []) rfl) (fun b9 => ?_))))))))
 refine yU (len := 0) qP (rows := (([] : List ID32).map (·.1)).map ys) (sz := 1) (by rfl) rfl (by simp) ?_
 refine z9 rfl rfl (z7 (z4 (z6 (z8 (z9 rfl rfl (z7 (z4 (z6 (z6 (z8 (z5 rfl rfl (y2 rfl yL rfl (z5 rfl rfl (z7 (z4 (zr (zX (fun K' D' M' μ => ∃ (i n5 c5 : Nat) (a5 : Option Addr) (u : List ID32) (d : Bool), (i ≤ n ∧ wthL (l.take i) z = (u, d) ∧ u.length = n5 ∧ n5 ≤ 2 * i) ∧ K' = [(12, .int .i64 (i : Int)), (5, .slice a5 n5 c5), (6, .bool d)] ∧ D' = [] ∧ M' = [own 1 9 a5 n5 c5 ((u.map (·.1)).map ys)] ∧ μ = n - i) (.c 1 rfl <| .c 10 rfl <| .c 11 rfl <| za _) (⟨0, 0, _, _, [], false, ⟨Nat.zero_le _, rfl, rfl, Nat.zero_le _⟩, rfl, rfl, rfl, rfl⟩) (.c 12 rfl <| .c 5 rfl <| .c 6 rfl <| za _) qD qS ?_)))))))))))))))))
 rintro K1 D1 M1 m1 ⟨i, n5, c5, a5, u, d, ⟨hi, hu, hun, hn5⟩, rfl, rfl, rfl, rfl⟩
 refine zF qA qA qA ?_
 refine z6 (z8 (zQ rfl rfl rfl (z7 (z4 (z6 (zo rfl (fun h13 => ?_) (fun h13 => ?_)))))))
 ·try simp only [dq] at h13
  refine zm (z4 (z6 (zr (z6 ?_))))
  have hgi : l[i]? = some (gd l i) := zJ jO
  obtain ⟨x, hx_⟩ : ∃ x, x = gd l i := ⟨_, rfl⟩
  have hgm : (l.map (·.1))[i]? = some x.1 := by rw [hx_]; exact gd_map jO
  rw [← hx_] at hgi
  have hgr : ((l.map (·.1)).map ys)[i]? = some (ys x.1) := zU hgm
  clear hx_
  refine z8 (yI (i := i) rfl yL sz9 rfl rfl qM jR qG (fun b14 o14 => ?_))
  refine zh rfl sc9 rfl qC ?_
  refine z9 rfl rfl (z7 (z4 (z6 (z6 ?_))))
  rcases d with _ | _
  ·skip
   refine z8 (z5 rfl rfl (yX rfl rfl (z5 rfl rfl (zv (t := 18) rfl (show _ = Value.bool true from rfl) ?_))))
   refine zf (dj := 18) rfl rfl rfl (z5 rfl rfl (zf (dj := 18) rfl rfl rfl (z5 rfl rfl (zf (dj := 18) rfl rfl rfl (L.leS rfl rfl rfl ?_)))))
   refine ye rfl rfl rfl (z7 (z4 (zo rfl (fun h22 => ?_) (fun h22 => ?_))))
   ·try simp only [dq] at h22
    have c22 : (bless z.1 x.1 || decide (z.1 = x.1)) = true := by rcases h22 with q | q <;> simp [q]
    clear h22
    refine z6 (z8 (z5 rfl rfl (z5 rfl rfl (yh rfl bs31 jD (zB rfl rfl rfl <| zO (out := []) rfl) (fun b25 => ?_)))))
    refine yR rfl yL el9 rfl rfl qP qM rfl qO1 qI qI (fun a26 c26 => ?_)
    refine z9 rfl rfl (z7 (z4 (z8 (z9 rfl rfl (z7 (z4 (z6 (z8 (z5 rfl rfl (z5 rfl rfl (L.neS rfl rfl rfl ?_)))))))))))
    refine z7 (z4 (zo rfl (fun h29 => ?_) (fun h29 => ?_)))
    ·try simp only [dq] at h29
     refine z8 (z5 rfl rfl (z5 rfl rfl (yh rfl bs31 jD (zB rfl rfl rfl <| zO (out := []) rfl) (fun b32 => ?_))))
     refine yR rfl yL el9 rfl rfl qP qM rfl qO1 qI qI (fun a33 c33 => ?_)
     refine z9 rfl rfl (z7 (zI (z4 (z8 (zH rfl rfl rfl jO ?_)))))
     refine z5 rfl rfl (z7 (z4 (y4 _ (((u ++ [z] ++ [x]).map (·.1)).map ys) qP (by simp) ?_)))
     exact zM ⟨i + 1, n5 + 1 + 1, _, _, u ++ [z] ++ [x], true, ⟨by omega, by rw [wthL_s hgi, hu]; unfold wthS; first | (simp [*]; done) | (exfalso; rw [h29] at c22; simp at c22), by (try simp only [List.length_append, List.length_singleton]); omega, by omega⟩, rfl, rfl, rfl, rfl⟩ qI (.c 12 rfl <| .c 5 rfl <| .c 6 rfl <| za _) (.c 1 rfl <| .c 10 rfl <| .c 11 rfl <| za _) qD qD qF
    ·try simp only [dq] at h29
     refine zm (zI (z4 (z8 (zH rfl rfl rfl jO ?_))))
     refine z5 rfl rfl (z7 (z4 (y4 _ (((u ++ [z]).map (·.1)).map ys) qP (by simp) ?_)))
     exact zM ⟨i + 1, n5 + 1, _, _, u ++ [z], true, ⟨by omega, by rw [wthL_s hgi, hu]; unfold wthS; first | (simp [*]; done) | (exfalso; rw [h29] at c22; simp at c22), by (try simp only [List.length_append, List.length_singleton]); omega, by omega⟩, rfl, rfl, rfl, rfl⟩ qI (.c 12 rfl <| .c 5 rfl <| .c 6 rfl <| za _) (.c 1 rfl <| .c 10 rfl <| .c 11 rfl <| za _) qD qD qF
   ·try simp only [dq] at h22
    have c22 : (bless z.1 x.1 || decide (z.1 = x.1)) = false := by first | exact h22 | simpa using h22
    clear h22
    refine zm (z4 (z6 (z8 (z5 rfl rfl (z5 rfl rfl (L.neS rfl rfl rfl ?_))))))
    refine z7 (z4 (zo rfl (fun h29 => ?_) (fun h29 => ?_)))
    ·try simp only [dq] at h29
     refine z8 (z5 rfl rfl (z5 rfl rfl (yh rfl bs31 jD (zB rfl rfl rfl <| zO (out := []) rfl) (fun b32 => ?_))))
     refine yR rfl yL el9 rfl rfl qP qM rfl qO1 qI qI (fun a33 c33 => ?_)
     refine z9 rfl rfl (z7 (zI (z4 (z8 (zH rfl rfl rfl jO ?_)))))
     refine z5 rfl rfl (z7 (z4 (y4 _ (((u ++ [x]).map (·.1)).map ys) qP (by simp) ?_)))
     exact zM ⟨i + 1, n5 + 1, _, _, u ++ [x], false, ⟨by omega, by rw [wthL_s hgi, hu]; unfold wthS; first | (simp [*]; done) | (exfalso; rw [h29] at c22; simp at c22), by (try simp only [List.length_append, List.length_singleton]); omega, by omega⟩, rfl, rfl, rfl, rfl⟩ qI (.c 12 rfl <| .c 5 rfl <| .c 6 rfl <| za _) (.c 1 rfl <| .c 10 rfl <| .c 11 rfl <| za _) qD qD qF
    ·try simp only [dq] at h29
     refine zm (zI (z4 (z8 (zH rfl rfl rfl jO ?_))))
     refine z5 rfl rfl (z7 (z4 (y4 _ (((u).map (·.1)).map ys) qP (by simp) ?_)))
     exact zM ⟨i + 1, n5, _, _, u, false, ⟨by omega, by rw [wthL_s hgi, hu]; unfold wthS; first | (simp [*]; done) | (exfalso; rw [h29] at c22; simp at c22), by (try simp only [List.length_append, List.length_singleton]); omega, by omega⟩, rfl, rfl, rfl, rfl⟩ qI (.c 12 rfl <| .c 5 rfl <| .c 6 rfl <| za _) (.c 1 rfl <| .c 10 rfl <| .c 11 rfl <| za _) qD qD qF
  ·skip
   refine z8 (z5 rfl rfl (yX rfl rfl (z5 rfl rfl (zv (t := 18) rfl (show _ = Value.bool false from rfl) ?_))))
   refine zg (dj := 18) (c := false) rfl rfl rfl rfl rfl jD (zg (dj := 18) (c := false) rfl rfl rfl rfl rfl jD (zg (dj := 18) (c := false) rfl rfl rfl rfl rfl jD (y5 rfl rfl rfl (z7 (z4 (ym rfl rfl ?_))))))
   refine zm (z4 (z6 (z8 (z5 rfl rfl (z5 rfl rfl (L.neS rfl rfl rfl ?_))))))
   refine z7 (z4 (zo rfl (fun h29 => ?_) (fun h29 => ?_)))
   ·try simp only [dq] at h29
    refine z8 (z5 rfl rfl (z5 rfl rfl (yh rfl bs31 jD (zB rfl rfl rfl <| zO (out := []) rfl) (fun b32 => ?_))))
    refine yR rfl yL el9 rfl rfl qP qM rfl qO1 qI qI (fun a33 c33 => ?_)
    refine z9 rfl rfl (z7 (zI (z4 (z8 (zH rfl rfl rfl jO ?_)))))
    refine z5 rfl rfl (z7 (z4 (y4 _ (((u ++ [x]).map (·.1)).map ys) qP (by simp) ?_)))
    exact zM ⟨i + 1, n5 + 1, _, _, u ++ [x], true, ⟨by omega, by rw [wthL_s hgi, hu]; unfold wthS; first | (simp [*]; done) | (exfalso; rw [h29] at c22; simp at c22), by (try simp only [List.length_append, List.length_singleton]); omega, by omega⟩, rfl, rfl, rfl, rfl⟩ qI (.c 12 rfl <| .c 5 rfl <| .c 6 rfl <| za _) (.c 1 rfl <| .c 10 rfl <| .c 11 rfl <| za _) qD qD qF
   ·try simp only [dq] at h29
    refine zm (zI (z4 (z8 (zH rfl rfl rfl jO ?_))))
    refine z5 rfl rfl (z7 (z4 (y4 _ (((u).map (·.1)).map ys) qP (by simp) ?_)))
    exact zM ⟨i + 1, n5, _, _, u, true, ⟨by omega, by rw [wthL_s hgi, hu]; unfold wthS; first | (simp [*]; done) | (exfalso; rw [h29] at c22; simp at c22), by (try simp only [List.length_append, List.length_singleton]); omega, by omega⟩, rfl, rfl, rfl, rfl⟩ qI (.c 12 rfl <| .c 5 rfl <| .c 6 rfl <| za _) (.c 1 rfl <| .c 10 rfl <| .c 11 rfl <| za _) qD qD qF
 ·try simp only [dq] at h13
  obtain rfl : n = i := by omega
  rw [List.take_of_length_le jO] at hu
  refine zR (zq (zq (zS (z4 (z6 (z6 (z8 (z5 rfl rfl (yX rfl rfl (z7 (z4 (zo rfl (fun h36 => ?_) (fun h36 => ?_)))))))))))))
  ·try simp only [dq] at h36
   refine z8 (z5 rfl rfl (z5 rfl rfl (yh rfl bs31 jD (zB rfl rfl rfl <| zO (out := []) rfl) (fun b39 => ?_))))
   refine yR rfl yL el9 rfl rfl qP qM rfl qO1 qI qI (fun a40 c40 => ?_)
   refine z9 rfl rfl (z7 (z4 (z6 (z8 (z5 rfl rfl (z9 rfl rfl (z7 (z4 (zi ?_)))))))))
   have hwf : withF l z = u ++ [z] := by unfold withF; rw [hu]; simp [h36]
   refine y4 _ (((withF l z).map (·.1)).map ys) qP (by rw [hwf]; simp) ?_
   exact zz rfl rfl ⟨_, _, _, rfl, by rw [hwf, List.length_append, hun]; rfl, rfl, rfl⟩ qD qF
  ·try simp only [dq] at h36
   refine zm (z4 (z6 (z8 (z5 rfl rfl (z9 rfl rfl (z7 (z4 (zi ?_))))))))
   have hwf : withF l z = u := by unfold withF; rw [hu]; simp [h36]
   refine y4 _ (((withF l z).map (·.1)).map ys) qP (by rw [hwf]) ?_
   exact zz rfl rfl ⟨_, _, _, rfl, by rw [hwf]; exact hun, rfl, rfl⟩ qD qF
theorem rsorted_spec {a : Option Addr} {n c : Nat} {l : List ID32} (hn : n ≤ 1000000) : Spec Tryz.prog 56 [.slice a n c] [rsl 1 a n c ((l.map (·.1)).map ys)] [] (fun v D' M' => ∃ (a' : Option Addr) (n' c' : Nat), v = .slice a' n' c' ∧ ((sortF l).length = n') ∧ D' = [] ∧ M' = [own 1 9 a' n' c' (((sortF l).map (·.1)).map ys)]) := by
 refine zC (n := 18) Tryz.func56 ?_
 intro σ D M
 refine yH (rows := (l.map (·.1)).map ys) qM (fun hpl hpc => ?_)
 rw [List.length_map, List.length_map] at hpl
 
 refine z6 (z8 (z9 rfl rfl (z7 (z4 (z6 (z8 (yh rfl bs31 jD (zO (out := []) rfl) (fun b6 => ?_))))))))
 refine yU (len := 0) qP (rows := ((sortF (l.take 0)).map (·.1)).map ys) (sz := 1) (by rfl) rfl (by simp [sortF]) ?_
 refine z9 rfl rfl (z7 (z4 (z6 (z6 (z8 (z5 rfl rfl (y2 rfl yL rfl (z5 rfl rfl (z7 (z4 (zr (zX (fun K' D' M' μ => ∃ (i n3 c3 : Nat) (a3 : Option Addr), (i ≤ n ∧ (sortF (l.take i)).length = n3) ∧ K' = [(9, .int .i64 (i : Int)), (3, .slice a3 n3 c3)] ∧ D' = [] ∧ M' = [own 1 9 a3 n3 c3 (((sortF (l.take i)).map (·.1)).map ys)] ∧ μ = n - i) (.c 7 rfl <| .c 8 rfl <| za _) (⟨0, 0, _, _, ⟨Nat.zero_le _, rfl⟩, rfl, rfl, rfl, rfl⟩) (.c 9 rfl <| .c 3 rfl <| za _) qD qS ?_))))))))))))
 rintro K1 D1 M1 m1 ⟨i, n3, c3, a3, ⟨hi, hs3⟩, rfl, rfl, rfl, rfl⟩
 refine zF qA qA qA ?_
 refine z6 (z8 (zQ rfl rfl rfl (z7 (z4 (z6 (zo rfl (fun h10 => ?_) (fun h10 => ?_)))))))
 ·try simp only [dq] at h10
  refine zm (z4 (z6 (zr (z6 ?_))))
  have hgi : l[i]? = some (gd l i) := zJ jO
  obtain ⟨x, hx_⟩ : ∃ x, x = gd l i := ⟨_, rfl⟩
  have hgm : (l.map (·.1))[i]? = some x.1 := by rw [hx_]; exact gd_map jO
  rw [← hx_] at hgi
  have hgr : ((l.map (·.1)).map ys)[i]? = some (ys x.1) := zU hgm
  clear hx_
  have hsl := sortF_len l i
  refine z8 (yI (i := i) rfl yL sz9 rfl rfl qM jR qG (fun b11 o11 => ?_))
  refine zh rfl sc9 rfl qC ?_
  refine z9 rfl rfl (z7 (z4 (yD (rows := ((sortF (l.take i)).map (·.1)).map ys) qP ?_)))
  refine z8 (z5 rfl rfl (z5 rfl rfl (zx rfl (ev2 rfl rfl) qD qS (with_spec (l := sortF (l.take i)) (z := x) jO) ?_)))
  rintro _ _ _ ⟨wa, wn, wc, rfl, hwn, rfl, rfl⟩
  refine zt qA qA ?_
  refine z9 rfl rfl (z7 (zI (z4 (z8 (zH rfl rfl rfl jO ?_)))))
  refine z5 rfl rfl (z7 (z4 (y4 _ (((sortF (l.take (i + 1))).map (·.1)).map ys) qP (by rw [sortF_s hgi]) ?_)))
  exact zM ⟨i + 1, wn, _, _, ⟨by omega, by rw [sortF_s hgi]; exact hwn⟩, rfl, rfl, rfl, rfl⟩ qI (.c 9 rfl <| .c 3 rfl <| za _) (.c 7 rfl <| .c 8 rfl <| za _) qD qD qF
 ·try simp only [dq] at h10
  obtain rfl : n = i := by omega
  rw [List.take_of_length_le jO] at hs3
  rw [List.take_of_length_le jO]
  exact zR (zq (zq (zS (z4 (z6 (z8 (z5 rfl rfl (z9 rfl rfl (z7 (z4 (zi (zz rfl rfl ⟨_, _, _, rfl, hs3, rfl, rfl⟩ qD qF))))))))))))
end Cv
set_option maxRecDepth 10000
namespace Cv
open Go Go.Proofs
section
variable {P : Program} {σ : World} {n : Nat} {Q : Post} {K : Env} {D M : List Asn} {ops : Array Oper} {rest : List Oper} {d : Nat} {ty : TypeId} {pos : String} {aft : Array Edge}
theorem L.makeBytesO {t e : TypeId} {x y : Operand} {kl kc : IntKind} {zl zc : Int} {k : Nat} (hd : Nat.blt d n = true) (hU : P.underlying t = some (.slice e)) (hi : (P.info? e).map (fun i => (i.zero, i.size, i.bytes)) = some (some (.int .u8 0), 1, 1))
    (hx : ev K x = some (.int kl zl)) (hy : ev K y = some (.int kc zc)) (hl : zl = (k : Int)) (hc : zc = (k : Int)) (hb : k ≤ 281474976710656)
    (next : ∀ b, TL none P σ n ops Q rest ((d, .slice (some ⟨b, 0, none⟩) k k) :: K) D (own 1 e (some ⟨b, 0, none⟩) k k ((List.replicate k (0 : UInt8)).map yr) :: M)) :
    TL none P σ n ops Q (⟨some d, .makeSlice t x y, ty, pos, aft, none⟩ :: rest) K D M :=
  L.op rfl (fun _ _ _ _ c hc => by cases hc) fun a w s ss K' hK' => by
    subst hl; subst hc
    cases hie : P.info? e with
    | none => rw [hie] at hi; cases hi
    | some i =>
      rw [hie] at hi
      simp only [Option.map_some, Option.some.injEq, Prod.mk.injEq] at hi
      obtain ⟨h1, h2, h3⟩ := hi
      have hr := run_make (P := P) w t e i _ hU hie h1 kl kc (k : Int) (k : Int) (by omega) (Int.le_refl _) (by rw [h3]; omega) (by omega)
      have e1 := s.eval hx
      have e2 := s.eval hy
      unfold Oper.wp
      have hx' : (execOp a.eval ⟨some d, .makeSlice t x y, ty, pos, aft, none⟩).run P w = .ok (.value (.slice (some ⟨w.heap.size, 0, none⟩) k k)) (w.alloc (.cells (madeCells #[.int .u8 0] k) e)) := by
        simp only [execOp, e1, e2]
        rw [Sem.run_bind, hr]
        simp [h2, Value.cells]
      rw [hx']
      have e3 : ((List.replicate k (0 : UInt8)).map yr).flatten = (madeCells #[.int .u8 0] k).toList := by
        rw [toList_madeCells_one, yr_flat, List.map_replicate]; rfl
      have s2 := (ss.alloc (.cells (madeCells #[.int .u8 0] k) e)).ent (Ent.imp fun _ hh => own_of_cl (sz := 1) (b := w.heap.size) (e := e) (rows := (List.replicate k (0 : UInt8)).map yr) (len := k) e3 (by simp) (fun r hr => by obtain ⟨q, _, rfl⟩ := List.mem_map.1 hr; rfl) hh)
      exact hK' _ _ (next w.heap.size _ _ (s.put _ hd) s2)
end
/-! ## the paths that the laws make -/
theorem md8 (z : Int) : (z.tmod 8 + 8).tmod 8 = ((z % 8).toNat : Int) := by
  rcases Int.lt_or_le z 0 with h | h
  · have h1 : z.tmod 8 = -((-z) % 8) := by
      rw [show z = -(-z) by omega, Int.neg_tmod, Int.tmod_eq_emod_of_nonneg (by omega)]; simp
    rw [h1, Int.tmod_eq_emod_of_nonneg (by omega)]; omega
  · rw [Int.tmod_eq_emod_of_nonneg h, Int.tmod_eq_emod_of_nonneg (by omega)]; omega
def mdZ (n : Nat) : Nat := 40 + n * n * 37
def mdC (n i : Nat) : UInt8 := UInt8.ofNat ((i * n + i / 7) % 256)
def mdB (n : Nat) : List UInt8 := (List.range (mdZ n)).map (mdC n)
def mdX (n : Nat) : Tr := .mk [] 1 (mdB n) []
def kF (n i : Nat) : Int := if i = 0 then (n : Int) - 1 else (n : Int) - 3
def pkF (n : Nat) : Nat → List Nat
  | 0 => []
  | i + 1 => pkF n i ++ (if 0 ≤ kF n i ∧ 0 < ((n : Int) + kF n i) % 3 then [(kF n i).toNat] else [])
abbrev MdT := Pt × List ID32 × List Ob
def mdO (o : Pt × List ID32 × List Ob × Int) : MdT := (o.1, o.2.1, (3, inN o.1 o.2.1, inT o.1 o.2.1) :: o.2.2.1)
def mdS (g : Nat → ID32) (n : Nat) : MdT := mdO (ofI (mdX n) (sortF ((pkF n 2).map g)))
def nmF : Nat → Nat → ID32
  | 0, _ => zID
  | f + 1, n => inN (mdS (nmF f) n).1 (mdS (nmF f) n).2.1
def md (n : Nat) : MdT := mdS (nmF n) n
def nm (n : Nat) : ID32 := inN (md n).1 (md n).2.1
theorem kF_lt {n i : Nat} (h : 0 ≤ kF n i) : (kF n i).toNat < n := by unfold kF at h ⊢; split at h <;> rename_i c <;> simp only [c] at h ⊢ <;> omega
theorem pkF_lt {n k : Nat} : ∀ {i : Nat}, k ∈ pkF n i → k < n
  | i + 1, h => by
    rw [pkF] at h
    rcases List.mem_append.1 h with q | q
    · exact pkF_lt q
    · split at q
      · rename_i c; obtain rfl : k = (kF n i).toNat := by simpa using q
        exact kF_lt c.1
      · cases q
theorem mdS_eq {g h : Nat → ID32} {n : Nat} (e : ∀ k < n, g k = h k) : mdS g n = mdS h n := by
  unfold mdS
  rw [List.map_congr_left (g := h) fun k hk => e k (pkF_lt hk)]
theorem nmF_eq : ∀ (f n : Nat), n < f → nmF f n = nm n := fun f => by
  induction f using Nat.strongRecOn with
  | ind f ih =>
    intro n h
    obtain ⟨f, rfl⟩ : ∃ k, f = k + 1 := ⟨f - 1, by omega⟩
    have : mdS (nmF f) n = md n := mdS_eq fun k hk => by
      rw [ih f (by omega) k (by omega)]
      exact (ih n h k hk).symm
    show inN (mdS (nmF f) n).1 (mdS (nmF f) n).2.1 = _
    rw [this]; rfl
theorem md_eq (n : Nat) : md n = mdS nm n := mdS_eq fun k hk => nmF_eq n k hk
theorem mdZ_8 {n : Nat} (h : n < 8) : mdZ n ≤ 1853 := by unfold mdZ; have : n * n ≤ 49 := Nat.mul_le_mul (by omega : n ≤ 7) (by omega : n ≤ 7); omega
theorem mdB_len (n : Nat) : (mdB n).length = mdZ n := by unfold mdB; simp
theorem mdB_get {n i : Nat} (h : i < mdZ n) : (mdB n)[i]? = some (mdC n i) := by unfold mdB; rw [List.getElem?_map, List.getElem?_range h]; rfl
theorem mdB_set {n i : Nat} (h : i < mdZ n) : ((mdB n).take i ++ List.replicate (mdZ n - i) 0).set i (mdC n i) = (mdB n).take (i + 1) ++ List.replicate (mdZ n - (i + 1)) 0 := by
  have hl : ((mdB n).take i).length = i := by rw [List.length_take, mdB_len]; omega
  rw [List.set_append_right _ _ (by omega), hl, Nat.sub_self, show mdZ n - i = (mdZ n - (i + 1)) + 1 by omega, List.replicate_succ, List.set_cons_zero, List.take_add_one, mdB_get h]
  simp
theorem pkF_t {n i : Nat} (h : 0 ≤ kF n i ∧ 0 < ((n : Int) + kF n i) % 3) : pkF n (i + 1) = pkF n i ++ [(kF n i).toNat] := by rw [pkF, if_pos h]
theorem pkF_f {n i : Nat} (h : ¬ (0 ≤ kF n i ∧ 0 < ((n : Int) + kF n i) % 3)) : pkF n (i + 1) = pkF n i := by rw [pkF, if_neg h, List.append_nil]
theorem md_size {x : Tr} {l : List ID32} (h : (ofI x l).2.2.2 = 0 ∨ (ofI x l).2.2.2 ≠ 0) : 0 ≤ (ofI x l).1.2 ∧ (ofI x l).1.2 ≤ 32768 := by
  rcases h with h | h
  · exact ⟨(ofI_size h).1, (ofI_size h).2.1⟩
  · unfold ofI at h ⊢
    split
    · exact ⟨Int.le_refl _, by show (0 : Int) ≤ 32768; decide⟩
    · split
      · exact ⟨Int.le_refl _, by show (0 : Int) ≤ 32768; decide⟩
      · split
        · exact ⟨Int.le_refl _, by show (0 : Int) ≤ 32768; decide⟩
        · rename_i c1 c2 c3; rw [if_neg c1, if_neg c2, if_neg c3] at h; exact absurd rfl h
theorem md_len (k : Nat) : (md k).2.1.length ≤ 8 := ofI_len
theorem md_sz (k : Nat) : 0 ≤ (md k).1.2 ∧ (md k).1.2 ≤ 32768 := md_size (x := mdX k) (Decidable.em _)
theorem pkF_le (m i : Nat) : (pkF m i).length ≤ i := by
  induction i with
  | zero => exact Nat.le_refl _
  | succ i ih => rw [pkF, List.length_append]; split <;> simp only [List.length_singleton, List.length_nil] <;> omega
theorem pkF_len (m : Nat) : (pkF m 2).length ≤ 2 := pkF_le m 2
theorem mdB_row {m i : Nat} (h : i < mdZ m) : (((mdB m).take i ++ List.replicate (mdZ m - i) 0).map yr).set i [Y (UInt8.ofNat (((i : Int) * (m : Int) + (i : Int) / 7) % 256).toNat)] = ((mdB m).take (i + 1) ++ List.replicate (mdZ m - (i + 1)) 0).map yr := by
  have e : (((i : Int) * (m : Int) + (i : Int) / 7) % 256).toNat = (i * m + i / 7) % 256 := by
    rw [← Int.natCast_mul]; omega
  rw [e, ← mdB_set h, List.map_set]; rfl
theorem nm_eq (k : Nat) : nm k = inN (md k).1 (md k).2.1 := rfl
theorem pk_row {m i kn : Nat} {Z : MdT} (hZ : Z = md kn) (hk : (kn : Int) = kF m i) (h : 0 ≤ kF m i ∧ 0 < ((m : Int) + kF m i) % 3) : ((pkF m i).map nm).map iC ++ [iC (inN Z.1 Z.2.1)] = ((pkF m (i + 1)).map nm).map iC := by
  subst hZ
  rw [← nm_eq, pkF_t h, ← hk, List.map_append, List.map_append, Int.toNat_natCast, List.map_singleton, List.map_singleton]
theorem md_objs {x : Tr} {l : List ID32} : (ofI x l).2.2.1.length ≤ 2000000000 := by
  by_cases h : (ofI x l).2.2.2 = 0
  · exact (ofI_size h).2.2.2
  · unfold ofI at h ⊢
    split
    · exact Nat.zero_le _
    · split
      · exact Nat.zero_le _
      · split
        · exact Nat.zero_le _
        · rename_i c1 c2 c3; rw [if_neg c1, if_neg c2, if_neg c3] at h; exact absurd rfl h

theorem made_step {z : Int} {m : Nat} (hz : (z % 8).toNat = m) (hzb : -9223372036854775808 ≤ z ∧ z ≤ 9223372036854775807) (IH : ∀ k : Nat, k < m → Spec Tryz.prog 30 [.int .i64 (k : Int)] [] [] (fun v D' M' => ∃ (a1 a2 : Option Addr) (n1 c1 n2 c2 : Nat), v = .tuple #[.agg (inC (md k).1 a1 n1 c1).toArray, .slice a2 n2 c2] ∧ ((md k).2.1.length = n1) ∧ ((md k).2.2.length = n2) ∧ D' = [rsl 32 a1 n1 c1 ((md k).2.1.map iC), rsl 34 a2 n2 c2 ((md k).2.2.map obC)] ∧ M' = [])) : Spec Tryz.prog 30 [.int .i64 z] [] [] (fun v D' M' => ∃ (a1 a2 : Option Addr) (n1 c1 n2 c2 : Nat), v = .tuple #[.agg (inC (md m).1 a1 n1 c1).toArray, .slice a2 n2 c2] ∧ ((md m).2.1.length = n1) ∧ ((md m).2.2.length = n2) ∧ D' = [rsl 32 a1 n1 c1 ((md m).2.1.map iC), rsl 34 a2 n2 c2 ((md m).2.2.map obC)] ∧ M' = []) := by
 refine zC (n := 87) Tryz.func30 ?_
 intro σ D M
 have hm8 : m < 8 := by omega
 have hmz := mdZ_8 hm8
 have hmm : m * m ≤ 49 := Nat.mul_le_mul (by omega : m ≤ 7) (by omega : m ≤ 7)
 have hmdz : mdZ m = 40 + m * m * 37 := rfl
 refine z6 (z8 (zL rfl ze54 (fun b2 => ?_)))
 refine z9 rfl rfl (z7 (z4 (z6 (z8 (z5 rfl rfl (L.remI rfl rfl rfl jD ?_))))))
 refine zH rfl rfl rfl (by have := Int.tmod_lt_of_pos z (show (0 : Int) < 8 by decide); have := Int.lt_tmod_of_pos z (show (0 : Int) < 8 by decide); omega) ?_
 refine L.remI rfl rfl rfl jD ?_
 refine zv (t := 17) (u := .int .i64 (m : Int)) rfl (congrArg (Value.int .i64) (by rw [md8, hz])) ?_
 refine z9 rfl rfl (z7 (z4 (z6 (z8 (yh rfl bs30 jD (zO (out := []) rfl) (fun b18 => ?_))))))
 refine yU (len := 0) qP (rows := ((pkF m 0).map nm).map iC) (sz := 32) (by rfl) rfl (by simp [pkF]) ?_
 refine z9 rfl rfl (z7 (z4 (z6 (z6 (z8 (z5 rfl rfl (y7 rfl rfl rfl jO ?_)))))))
 refine z5 rfl rfl (y7 rfl rfl rfl jO ?_)
 refine yh rfl bs22 jD (zB rfl rfl rfl <| zB rfl rfl rfl <| zO (out := []) rfl) (fun b23 => ?_)
 refine yU (len := 2) qP (rows := [kF m 0, kF m 1].map e3) (sz := 1) (by rfl) rfl (by simp) ?_
 refine yZ (rows := [kF m 0, kF m 1].map e3) qP ?_
 refine y2 rfl xE rfl (z5 rfl rfl (z7 (z4 (zr (zX (fun K' D' M' μ => ∃ (i n4 c4 : Nat) (a4 : Option Addr), (i ≤ 2 ∧ n4 = (pkF m i).length) ∧ K' = [(25, .int .i64 (i : Int)), (4, .slice a4 n4 c4)] ∧ D' = [] ∧ M' = [own 32 38 a4 n4 c4 (((pkF m i).map nm).map iC)] ∧ μ = 2 - i) (.c 0 rfl <| .c 2 rfl <| .c 23 rfl <| .c 24 rfl <| za _) (⟨0, 0, 0, _, ⟨Nat.zero_le _, rfl⟩, rfl, rfl, rfl, rfl⟩) (.c 25 rfl <| .c 4 rfl <| za _) qD qS ?_)))))
 rintro K1 D1 M1 m1 ⟨i, n4, c4, a4, ⟨hi, hn4⟩, rfl, rfl, rfl, rfl⟩
 refine zF qA qA qA ?_
 refine z6 (z8 (zQ rfl rfl rfl (z7 (z4 (z6 (zo rfl (fun h26 => ?_) (fun h26 => ?_)))))))
 ·try simp only [dq] at h26
  refine zm (z4 (z6 (zr (z6 ?_))))
  have hpl := pkF_le m i
  have hgi : [kF m 0, kF m 1][i]? = some (kF m i) := by rcases (show i = 0 ∨ i = 1 by omega) with rfl | rfl <;> rfl
  have hgr : ([kF m 0, kF m 1].map e3)[i]? = some (e3 (kF m i)) := zU hgi
  obtain ⟨k, hk_⟩ : ∃ k, k = kF m i := ⟨_, rfl⟩
  rw [← hk_] at hgi hgr
  have hkl : -3 ≤ k ∧ k < m := by rw [hk_]; unfold kF; split <;> omega
  refine z8 (yI (i := i) rfl xE sz3 rfl rfl qM jR qG (fun b27 o27 => ?_))
  refine zh rfl sc3 rfl qC ?_
  refine z9 rfl rfl (z7 (z4 (z6 (z8 (z5 rfl rfl (x6 rfl rfl rfl (z5 rfl rfl (yM (t := 31) rfl (fun h1 => ?_) (fun h1 => ?_)))))))))
  ·try simp only [dq] at h1
   refine zf (dj := 31) rfl rfl rfl (z5 rfl rfl (zf (dj := 31) rfl rfl rfl (z5 rfl rfl (zf (dj := 31) rfl rfl rfl (zH rfl rfl rfl jO ?_)))))
   refine zf (dj := 31) rfl rfl rfl (L.remN rfl rfl rfl qI ?_)
   refine zf (dj := 31) rfl rfl rfl (yB rfl rfl rfl (ye rfl rfl rfl (z7 (z4 (zo rfl (fun h37 => ?_) (fun h37 => ?_))))))
   ·try simp only [dq] at h37
    have hkt : 0 ≤ kF m i ∧ 0 < ((m : Int) + kF m i) % 3 := by rw [← hk_]; exact ⟨h1, h37⟩
    obtain ⟨kn, hkn⟩ : ∃ kn : Nat, k = kn := ⟨k.toNat, by omega⟩
    subst hkn
    refine z6 (z8 (z5 rfl rfl (zx rfl (ev1 rfl) qD qS (IH kn jO) ?_)))
    rintro _ _ _ ⟨ma, mo, ml, mc, ol, oc, rfl, hml, hol, rfl, rfl⟩
    refine zt qA qA ?_
    have hz8 := md_len kn
    have hzs := md_sz kn
    obtain ⟨Z, hZ⟩ : ∃ z, z = md kn := ⟨_, rfl⟩
    rw [← hZ] at hml hol hz8 hzs ⊢
    have hin := inC_len Z.1 ma ml mc
    have hp32 := Z.1.1.2
    refine z5 rfl rfl (zG rfl rfl rfl (zG rfl rfl rfl (zL rfl ze54 (fun b7 => ?_))))
    refine zE y9 rfl rfl qL qO qU qW ?_
    refine z9 rfl rfl (z7 (y1 (A := cl b7 54 (inC Z.1 ma ml mc)) qP ?_))
    refine z4 (z8 (z5 rfl rfl (zp rfl y9 rfl qN ?_)))
    refine zW rfl (ev1 rfl) qD qS (iname_spec (l := Z.2.1) (p := Z.1) jO jO) jF ?_
    obtain ⟨nn, hn_⟩ : ∃ x, x = inN Z.1 Z.2.1 := ⟨_, rfl⟩
    rw [← hn_]
    have hnn := nn.2
    have hn3 := zT nn
    refine yh rfl bs30 jD (yQ rfl rfl (by first | with_reducible assumption | (simp; done) | (simp only [List.length_map]; with_reducible assumption) | (simp [*]; done) | rfl) (Nat.le_of_ble_eq_true rfl) qR <| zO (out := []) rfl) (fun b46 => ?_)
    refine yR rfl zA el38 rfl rfl qP qM (by rw [List.append_nil]; exact hn3) (fun u hu => by rw [List.append_nil] at hu; exact one_iC u hu) qI qI (fun a47 c47 => ?_)
    refine z9 rfl rfl (z7 (zI (z4 (z8 (zH rfl rfl rfl jO ?_)))))
    refine z5 rfl rfl (z7 (z4 (y4 _ (((pkF m (i + 1)).map nm).map iC) qP (by rw [List.append_nil, hn_]; exact pk_row hZ hk_ hkt) ?_)))
    exact zM ⟨i + 1, n4 + 1, _, _, ⟨by omega, by rw [hn4, pkF_t hkt]; simp⟩, rfl, rfl, rfl, rfl⟩ qI (.c 25 rfl <| .c 4 rfl <| za _) (.c 0 rfl <| .c 2 rfl <| .c 23 rfl <| .c 24 rfl <| za _) qD qD qF
   ·try simp only [dq] at h37
    refine zm (zI (z4 (z8 (zH rfl rfl rfl jO ?_))))
    refine z5 rfl rfl (z7 (z4 ?_))
    have hkf : ¬ (0 ≤ kF m i ∧ 0 < ((m : Int) + kF m i) % 3) := fun q => h37 (by rw [hk_]; exact q.2)
    refine y4 _ (((pkF m (i + 1)).map nm).map iC) qP (by rw [pkF_f hkf]) ?_
    exact zM ⟨i + 1, n4, _, _, ⟨by omega, by rw [hn4, pkF_f hkf]⟩, rfl, rfl, rfl, rfl⟩ qI (.c 25 rfl <| .c 4 rfl <| za _) (.c 0 rfl <| .c 2 rfl <| .c 23 rfl <| .c 24 rfl <| za _) qD qD qF
  ·try simp only [dq] at h1
   refine zg (dj := 31) (c := false) rfl rfl rfl rfl rfl jD (zg (dj := 31) (c := false) rfl rfl rfl rfl rfl jD (zg (dj := 31) (c := false) rfl rfl rfl rfl rfl jD (zg (dj := 31) (c := false) rfl rfl rfl rfl rfl jD (zg (dj := 31) (c := false) rfl rfl rfl rfl rfl jD (y5 rfl rfl rfl (z7 (z4 (ym rfl rfl ?_))))))))
   refine zm (zI (z4 (z8 (zH rfl rfl rfl jO ?_))))
   refine z5 rfl rfl (z7 (z4 ?_))
   have hkf : ¬ (0 ≤ kF m i ∧ 0 < ((m : Int) + kF m i) % 3) := fun q => h1 (by rw [hk_]; exact q.1)
   refine y4 _ (((pkF m (i + 1)).map nm).map iC) qP (by rw [pkF_f hkf]) ?_
   exact zM ⟨i + 1, n4, _, _, ⟨by omega, by rw [hn4, pkF_f hkf]⟩, rfl, rfl, rfl, rfl⟩ qI (.c 25 rfl <| .c 4 rfl <| za _) (.c 0 rfl <| .c 2 rfl <| .c 23 rfl <| .c 24 rfl <| za _) qD qD qF
 ·try simp only [dq] at h26
  obtain rfl : i = 2 := by omega
  refine yD (rows := ((pkF m 2).map nm).map iC) qP ?_
  have hp2 := pkF_len m
  have hmmc : (m : Int) * (m : Int) = ((m * m : Nat) : Int) := (Int.natCast_mul m m).symm
  refine T.fact0 (φ := rtr (mdX m) (eRow (mdX m) none 0 0)) (fun z => rt_leaf) ?_
  refine zR (zq (zq (zS (z4 (z6 (z8 (z5 rfl rfl (z5 rfl rfl (L.mulN rfl rfl rfl jO ?_)))))))))
  refine L.mulN rfl rfl rfl jO ?_
  refine zH rfl rfl rfl jO ?_
  refine L.makeBytesO (k := mdZ m) rfl yz qk rfl rfl (by rw [hmdz]; push_cast; omega) (by rw [hmdz]; push_cast; omega) jO (fun b9 => ?_)
  refine z9 rfl rfl (z7 (z4 (z6 (z6 (z8 (z5 rfl rfl (y2 rfl yz rfl (z5 rfl rfl (z7 (z4 (zr (zX (fun K' D' M' μ => ∃ (i : Nat), (i ≤ mdZ m) ∧ K' = [(57, .int .i64 (i : Int))] ∧ D' = [] ∧ M' = [own 1 5 (some ⟨b9, 0, none⟩) (mdZ m) (mdZ m) (((mdB m).take i ++ List.replicate (mdZ m - i) 0).map yr)] ∧ μ = mdZ m - i) (.c 0 rfl <| .c 2 rfl <| .c 4 rfl <| .c 9 rfl <| .c 56 rfl <| za _) (⟨0, Nat.zero_le _, rfl, rfl, rfl, rfl⟩) (.c 57 rfl <| za _) qD qS ?_))))))))))))
  rintro K1 D1 M1 m1 ⟨i, hi, rfl, rfl, rfl, rfl⟩
  refine zF qA qA qA ?_
  refine z6 (z8 (zQ rfl rfl rfl (z7 (z4 (z6 (zo rfl (fun h58 => ?_) (fun h58 => ?_)))))))
  ·try simp only [dq] at h58
   refine zm (z4 (z6 (zr (z6 (z8 (z5 rfl rfl (z9 rfl rfl (z7 (z4 ?_)))))))))
   have him : i * m ≤ 1853 * 7 := Nat.mul_le_mul jO jO
   have himc : (i : Int) * (m : Int) = ((i * m : Nat) : Int) := (Int.natCast_mul i m).symm
   refine z8 (z5 rfl rfl (z5 rfl rfl (z5 rfl rfl (z5 rfl rfl (L.mulN rfl rfl rfl jO ?_)))))
   refine z5 rfl rfl (L.quoN rfl rfl rfl qI ?_)
   refine zH rfl rfl rfl jO ?_
   refine L.convIY rfl xf zY rfl ?_
   refine zV (i := i) rfl yz sz5 rfl rfl jR qI ?_
   refine L.storeO (i) sc5 rfl jR rfl rfl qP qI ?_
   refine z7 (zI (z4 (z8 (zH rfl rfl rfl jO ?_))))
   refine z5 rfl rfl (z7 (z4 (y4 _ (((mdB m).take (i + 1) ++ List.replicate (mdZ m - (i + 1)) 0).map yr) qP (mdB_row jO) ?_)))
   exact zM ⟨i + 1, jO, rfl, rfl, rfl, rfl⟩ qI (.c 57 rfl <| za _) (.c 0 rfl <| .c 2 rfl <| .c 4 rfl <| .c 9 rfl <| .c 56 rfl <| za _) qD qD qF
  ·try simp only [dq] at h58
   obtain rfl : i = mdZ m := by omega
   refine y4 _ ((mdB m).map yr) qP (by rw [List.take_of_length_le (by rw [mdB_len]; exact Nat.le_refl _), Nat.sub_self, List.replicate_zero, List.append_nil]) ?_
   refine zR (zq (zq (zS (z4 (z6 (z8 (z5 rfl rfl (L.bytesStrO rfl yz zY yy rfl qM ?_))))))))
   refine yw rfl bu133 (zB rfl rfl rfl <| zB rfl rfl rfl <| zO (out := [Value.slice none 0 0]) rfl) ?_
   refine z5 rfl rfl (zx rfl (ev2 rfl rfl) qD qS (iof_spec (x := mdX m) none 0 0 (n := n4) (xs := (pkF m 2).map nm) (by unfold mdX; rw [Tr.count_eq]; show 1 + countL [] ≤ 900000; decide) tall_leaf (by show (mdB m).length ≤ 20000; rw [mdB_len]; omega) jO) ?_)
   rintro _ _ _ ⟨ia, oa, il, ic, ol, oc, li, rfl, hnf, hil, hol, rfl, rfl⟩
   refine zt qA qA ?_
   rw [ofI_or hnf (sortF_names _)] at hil hol ⊢
   obtain ⟨W, hW⟩ : ∃ z, z = ofI (mdX m) (sortF ((pkF m 2).map nm)) := ⟨_, rfl⟩
   have hw8 := ofI_len (x := mdX m) (l := sortF ((pkF m 2).map nm))
   have hwo := md_objs (x := mdX m) (l := sortF ((pkF m 2).map nm))
   have hws := md_size (x := mdX m) (l := sortF ((pkF m 2).map nm)) (Decidable.em _)
   have hmd : md m = mdO W := by rw [md_eq, hW]; rfl
   rw [← hW] at hil hol hw8 hws hwo ⊢
   have hin := inC_len W.1 ia il ic
   have hit := inT_len (p := W.1) (l := W.2.1) jO jO
   refine z5 rfl rfl (zG rfl rfl rfl (zG rfl rfl rfl (zG rfl rfl rfl (zL rfl ze54 (fun b11 => ?_)))))
   refine zE y9 rfl rfl qL qO qU qW ?_
   refine z9 rfl rfl (z9 rfl rfl (z7 (y1 (A := cl b11 54 (inC W.1 ia il ic)) qP ?_)))
   refine z4 (z6 (yt (clsL [0, 0, 0, 0, 0, 1, 0, 2, 1]) qk ?_))
   refine ze 5 rfl rfl (z5 rfl rfl (zd (y8 (i := 0) rfl rfl rfl rfl qk qk qk qk rfl qD qF ?_)))
   refine zp rfl y9 rfl qN ?_
   refine zd (y8 (i := 1) rfl rfl rfl rfl qk qk qk qk rfl qD qF ?_)
   refine zp rfl y9 rfl qN ?_
   refine zd (zy 2 rfl (zW rfl (ev1 rfl) qD qS (itext_spec (l := W.2.1) (p := W.1) jO jO) jF ?_))
   refine yK rfl qD qF ?_
   refine zy 3 rfl (zx rfl (ev2 rfl rfl) qD qS (make_spec (k := 3) (tx := inT W.1 W.2.1) jO) ?_)
   rintro _ _ _ ⟨rfl, rfl, rfl⟩
   refine zt qA qA ?_
   obtain ⟨oo, ho_⟩ : ∃ x : Ob, x = (3, oI 3 (inT W.1 W.2.1), inT W.1 W.2.1) := ⟨_, rfl⟩
   rw [← ho_]
   have ho33 := obC_len oo
   have ho32 := oo.2.1.2
   refine yK rfl qD qF ?_
   refine zy 4 rfl (yh rfl bs24 jD (yQ rfl rfl (by first | with_reducible assumption | (simp; done) | (simp only [List.length_map]; with_reducible assumption) | (simp [*]; done) | rfl) (Nat.le_of_ble_eq_true rfl) qR <| zO (out := []) rfl) (fun b84 => ?_))
   refine yU (len := 1) qP (rows := [oo].map obC) (sz := 34) (by simp) rfl (by simp [ho32]) ?_
   refine yK rfl qD qF ?_
   refine zy 6 rfl (xy rfl x9 x9 el45 rfl rfl qP (rd_D qM) one_obs qI qI (fun a86 c86 => ?_))
   refine yK rfl qD qF ?_
   refine zy 7 rfl (zE y9 rfl rfl qL qO qU qW ?_)
   refine zw rfl qD ?_
   refine ze 8 rfl rfl (z9 rfl rfl (zd (y6 qk ?_)))
   refine z4 (zi (y4 _ ((oo :: W.2.2.1).map obC) qP (by rfl) ?_))
   refine yD (rows := (oo :: W.2.2.1).map obC) qP ?_
   have hm1 : (md m).1 = W.1 := by rw [hmd]; rfl
   have hm2 : (md m).2.1 = W.2.1 := by rw [hmd]; rfl
   have hm3 : (md m).2.2 = oo :: W.2.2.1 := by rw [hmd, ho_]; rfl
   rw [hm1, hm2, hm3]
   exact yN rfl y9 rfl qN rfl ⟨_, _, _, _, _, _, rfl, hil, by rw [List.length_cons]; omega, rfl, rfl⟩ qD qF
end Cv
set_option maxRecDepth 10000
namespace Cv
open Go Go.Proofs
/-! ## the paths made: plain facts -/
theorem chk_md {n : Nat} (h : n < 8) : chkE (mdX n) = 0 := by
  have hz := mdZ_8 h
  have h0 : own0 (mdX n).k (mdX n).t (decide (0 < (mdX n).ks.length)) 1 = 0 :=
    own0_5 (by show ¬ ((1 : Int) < 1 ∨ (4 : Int) < 1); omega) (by show ¬ (((1 : Int) ≠ 4 ∧ decide (0 < ([] : List Tr).length) = true) ∨ ((1 : Int) = 4 ∧ mdB n ≠ []) ∨ ((1 : Int) = 3 ∧ mdB n = [])); simp)
      (by show ¬ ((1 : Int) = 3 ∧ _); simp) (by show ¬ (8192 < (mdB n).length ∨ 8 < 1); rw [mdB_len]; omega)
  unfold chkE
  rw [chk_go h0]; rfl
theorem put_md (n : Nat) : putT (mdX n) = numB 1 ++ (numB (mdZ n) ++ mdB n) := by
  rw [putT_eq]
  show numB 1 ++ (if (1 : Int) ≠ 4 then strB (mdB n) else _) = _
  rw [if_pos (by decide), strB, mdB_len]
theorem wr_md {n : Nat} (h : n < 8) : wrS (mdX n) = mark ++ putT (mdX n) ∧ wrE (mdX n) = 0 ∧ 1 ≤ (wrS (mdX n)).length ∧ (wrS (mdX n)).length ≤ 1900 := by
  have hz := mdZ_8 h
  have h1 := numB_len (n := 1) (by decide)
  have h2 := numB_len (n := mdZ n) (by omega)
  have hl : (putT (mdX n)).length ≤ 1890 := by
    rw [put_md, List.length_append, List.length_append, mdB_len]; omega
  obtain ⟨w1, w2⟩ := wr_ok (chk_md h) (by omega)
  have hm : mark.length = 4 := rfl
  exact ⟨w1, w2, by rw [w1, List.length_append]; omega, by rw [w1, List.length_append]; omega⟩
theorem chn_len {tt : List Int} : ∀ (k : Nat) (s : List UInt8), s.length ≤ k → (chnF tt s).length ≤ (s.length + 31) / 32
  | 0, s, h => by
    obtain rfl : s = [] := List.length_eq_zero_iff.1 (by omega)
    rw [chn_nil]; exact Nat.zero_le _
  | k + 1, s, h => by
    by_cases h0 : s = []
    · subst h0; rw [chn_nil]; exact Nat.zero_le _
    · have hl := List.length_pos_iff.2 h0
      have hi := endR_in (T := tt) h0
      have ih := chn_len (tt := tt) k (s.drop (endR tt s)) (by rw [List.length_drop]; omega)
      rw [chn_step h0, List.length_cons]
      rw [List.length_drop] at ih
      rcases endI_all tt s s.length 0 (Nat.zero_add _) (.zero tt s) with ⟨n, hI, hn, e⟩ | hI
      · have he := hI.hit hn e
        have h32 : 32 ≤ n + 1 := (of_decide_eq_true e).1
        omega
      · have he := hI.fin
        rw [he, List.drop_length, chn_nil]
        simp only [List.length_nil]; omega
theorem lv_two {ps : List Pt} {os : List Ob} {f : Nat} (h1 : 1 ≤ ps.length) (h64 : ps.length ≤ 64) (hf : ps.length + 1 ≤ f) :
    lvR f 1 ps os = if gN ps.length = 1 then (upP 1 ps, os ++ upO 1 ps) else (upP 2 (upP 1 ps), os ++ upO 1 ps ++ upO 2 (upP 1 ps)) := by
  obtain ⟨f, rfl⟩ : ∃ g, f = g + 1 := ⟨f - 1, by omega⟩
  rw [lvR_s (.inl rfl)]
  have hg : gN ps.length = (ps.length + 7) / 8 := rfl
  have hu := @upP_len 1 ps
  by_cases c : gN ps.length = 1
  · rw [if_pos c, lvR_z (by omega)]
  · obtain ⟨f, rfl⟩ : ∃ g, f = g + 1 := ⟨f - 1, by omega⟩
    rw [if_neg c, lvR_s (.inr (by omega))]
    have hu2 := @upP_len (1 + 1) (upP 1 ps)
    have hg2 : gN (upP 1 ps).length = ((upP 1 ps).length + 7) / 8 := rfl
    rw [lvR_z (by omega)]
def ndO (ps : List Pt) : List Ob := upO 1 ps ++ (if gN ps.length = 1 then [] else upO 2 (upP 1 ps))
def rtP (ps : List Pt) : Pt := if gN ps.length = 1 then (upP 1 ps).headD zP else (upP 2 (upP 1 ps)).headD zP
def mdCh (n : Nat) : List (List UInt8) := chnF (gearT seedS) (wrS (mdX n))
def mdP (n : Nat) : List Pt := (mdCh n).map lf
theorem mdCh_ok {n : Nat} (h : n < 8) : (∀ c ∈ mdCh n, ¬ badC c) ∧ (mdCh n).flatten = wrS (mdX n) ∧ 1 ≤ (mdCh n).length ∧ (mdCh n).length ≤ 60 := by
  obtain ⟨w1, w2, w3, w4⟩ := wr_md h
  obtain ⟨h1, h2⟩ := chn_good (T := gearT seedS) (s := wrS (mdX n))
  have h3 := chn_len (tt := gearT seedS) _ (wrS (mdX n)) (Nat.le_refl _)
  refine ⟨h1, h2, Nat.pos_of_ne_zero fun q => ?_, by unfold mdCh; omega⟩
  have e : mdCh n = [] := List.length_eq_zero_iff.1 q
  unfold mdCh at e
  rw [e] at h2
  rw [← h2] at w3
  simp at w3
theorem ofB_md {n : Nat} (h : n < 8) : ofB (mdX n) = (rtP (mdP n), (mdCh n).map lo ++ ndO (mdP n), 0) := by
  obtain ⟨w1, w2, w3, w4⟩ := wr_md h
  obtain ⟨h1, h2, h3, h4⟩ := mdCh_ok h
  have hz : sizeI ((mdCh n).map lf) (mdCh n).length = ((mdCh n).flatten.length : Int) := by
    rw [← size_flat]; unfold sizeP; rw [List.length_map]
  have hl : (mdP n).length = (mdCh n).length := List.length_map ..
  have hlv := lv_two (ps := mdP n) (os := (mdCh n).map lo) (f := (mdCh n).length + 1) (by omega) (by omega) (by omega)
  have key : ∀ p ns, lvR ((mdCh n).length + 1) 1 (mdP n) ((mdCh n).map lo) = ([p], (mdCh n).map lo ++ ns) → ofB (mdX n) = (p, (mdCh n).map lo ++ ns, 0) := fun p ns e =>
    bld_ok h1 (by rw [hz, h2]; omega) (by rw [hz, h2]; omega) e
  have hg : gN (mdP n).length = ((mdP n).length + 7) / 8 := rfl
  have hu := @upP_len 1 (mdP n)
  unfold rtP ndO
  by_cases c : gN (mdP n).length = 1
  · rw [if_pos c] at hlv
    rw [if_pos c, if_pos c, List.append_nil]
    obtain ⟨p, hp⟩ := List.length_eq_one_iff.1 (by rw [hu]; exact c)
    rw [hp] at hlv ⊢
    exact key p _ hlv
  · rw [if_neg c] at hlv
    rw [if_neg c, if_neg c]
    have hu2 := @upP_len 2 (upP 1 (mdP n))
    have hg2 : gN (upP 1 (mdP n)).length = ((upP 1 (mdP n)).length + 7) / 8 := rfl
    obtain ⟨p, hp⟩ := List.length_eq_one_iff.1 (show (upP 2 (upP 1 (mdP n))).length = 1 by omega)
    rw [hp, List.append_assoc] at hlv
    rw [hp]
    exact key p _ hlv
theorem sort_len (l : List ID32) : (sortF l).length ≤ l.length := by
  have := sortF_len l l.length
  rw [List.take_length] at this; omega
theorem md_is {n : Nat} (h : n < 8) : md n = (rtP (mdP n), sortF ((pkF n 2).map nm), (3, nm n, inT (rtP (mdP n)) (sortF ((pkF n 2).map nm))) :: ((mdCh n).map lo ++ ndO (mdP n))) := by
  have hs := sort_len ((pkF n 2).map nm)
  have h2 := pkF_len n
  rw [List.length_map] at hs
  have e : ofI (mdX n) (sortF ((pkF n 2).map nm)) = (rtP (mdP n), sortF ((pkF n 2).map nm), (mdCh n).map lo ++ ndO (mdP n), 0) := by
    rw [ofI_ok (wr_md h).2.1 (by omega) (by rw [ofB_md h]), ofB_md h]
  have e2 : md n = mdO (rtP (mdP n), sortF ((pkF n 2).map nm), (mdCh n).map lo ++ ndO (mdP n), 0) := by rw [md_eq, ← e]; rfl
  have e3 : nm n = inN (rtP (mdP n)) (sortF ((pkF n 2).map nm)) := by rw [nm_eq, e2]; rfl
  rw [e3]; exact e2
theorem md_olen {n : Nat} (h : n < 8) : (md n).2.2.length ≤ 70 := by
  obtain ⟨h1, h2, h3, h4⟩ := mdCh_ok h
  rw [md_is h]
  have hl : (mdP n).length = (mdCh n).length := List.length_map ..
  have hg : gN (mdP n).length = ((mdP n).length + 7) / 8 := rfl
  have hu := @upO_len 1 (mdP n)
  have hp := @upP_len 1 (mdP n)
  have hn : (ndO (mdP n)).length ≤ 9 := by
    unfold ndO
    rw [List.length_append]
    split
    · rw [List.length_nil]; omega
    · have hu2 := @upO_len 2 (upP 1 (mdP n))
      have hg2 : gN (upP 1 (mdP n)).length = ((upP 1 (mdP n)).length + 7) / 8 := rfl
      omega
  rw [List.length_cons, List.length_append, List.length_map]; omega
theorem up_mem {k : Nat} {ps : List Pt} {o : Ob} (h : o ∈ upO k ps) : ∃ g : List Pt, g.length ≤ 8 ∧ (∀ p ∈ g, p ∈ ps) ∧ o = uob k g := by
  obtain ⟨g, hg, rfl⟩ := List.mem_map.1 h
  obtain ⟨i, -, rfl⟩ := List.mem_map.1 hg
  exact ⟨_, by have := @grp_len ps i; omega, fun p hp => grp_mem hp, rfl⟩
theorem upP_size {k : Nat} {ps : List Pt} {B : Int} (hB : 0 ≤ B) (hp : ∀ p ∈ ps, 0 ≤ p.2 ∧ p.2 ≤ B) : ∀ p ∈ upP k ps, 0 ≤ p.2 ∧ p.2 ≤ B * 8 := fun p h => by
  obtain ⟨g, hg, rfl⟩ := List.mem_map.1 h
  obtain ⟨i, -, rfl⟩ := List.mem_map.1 hg
  have hl := @grp_len ps i
  have := sizeI_in (ps := grp ps i) (B := B) (fun p h => hp p (grp_mem h)) (grp ps i).length (Nat.le_refl _)
  refine ⟨this.1, Int.le_trans this.2 (Int.mul_le_mul_of_nonneg_left (by omega) hB)⟩
theorem mdP_size {n : Nat} (h : n < 8) : ∀ p ∈ mdP n, 0 ≤ p.2 ∧ p.2 ≤ 256 := fun p hp => by
  obtain ⟨c, hc, rfl⟩ := List.mem_map.1 hp
  have hb := (mdCh_ok h).1 c hc
  unfold badC at hb
  show 0 ≤ (c.length : Int) ∧ (c.length : Int) ≤ 256; omega
theorem ndO_mem {n : Nat} (h : n < 8) {o : Ob} (q : o ∈ ndO (mdP n)) : ∃ (k : Nat) (g : List Pt), k ≤ 2 ∧ g.length ≤ 8 ∧ (∀ p ∈ g, 0 ≤ p.2 ∧ p.2 ≤ 2048) ∧ o = uob k g := by
  have h1 := mdP_size h
  have h2 := upP_size (k := 1) (by decide) h1
  unfold ndO at q
  rcases List.mem_append.1 q with q | q
  · obtain ⟨g, hg, hp, rfl⟩ := up_mem q
    exact ⟨1, g, by decide, hg, fun p hq => by have := h1 p (hp p hq); omega, rfl⟩
  · split at q
    · cases q
    · obtain ⟨g, hg, hp, rfl⟩ := up_mem q
      exact ⟨2, g, by decide, hg, fun p hq => by have := h2 p (hp p hq); omega, rfl⟩
theorem md_shf {n : Nat} (h : n < 8) : Shf (md n).2.2 := by
  obtain ⟨h1, h2, h3, h4⟩ := mdCh_ok h
  rw [md_is h]
  intro o ho
  rcases List.mem_cons.1 ho with q | q
  · subst q
    have hs := sort_len ((pkF n 2).map nm)
    have hp := pkF_len n
    rw [List.length_map] at hs
    have hr := md_sz n
    rw [md_is h] at hr
    have := inT_len (p := rtP (mdP n)) (l := sortF ((pkF n 2).map nm)) (by have : (rtP (mdP n)).2 ≤ 32768 := hr.2; omega) (by omega)
    show (inT _ _).length ≤ _; omega
  · rcases List.mem_append.1 q with q | q
    · obtain ⟨c, hc, rfl⟩ := List.mem_map.1 q
      have hb := h1 c hc
      unfold badC at hb
      show c.length ≤ _; omega
    · obtain ⟨k, g, hk, hgl, hgp, rfl⟩ := ndO_mem h q
      have := nodeP_len (k := k) (ps := g) (by omega) (by omega) (fun p hp => by have := hgp p hp; omega) g.length
      show (nodeP k g g.length).length ≤ _; omega
/-! ## stocks -/
def mo (z : Int) : List Ob := (md (z % 8).toNat).2.2
theorem eq_snoc {xs : List ID32} {us : List (List UInt8)} {i : Nat} {x : ID32} {u : List UInt8} (hx : xs[i]? = some x) (hu : us[i]? = some u) (h : (xs.map (·.1)).take i = us.take i) (e : x.1 = u) : (xs.map (·.1)).take (i + 1) = us.take (i + 1) := by
  rw [List.take_add_one, List.take_add_one, h, List.getElem?_map, hx, hu]; simp [e]
theorem made_all (m : Nat) : ∀ z : Int, (z % 8).toNat = m → -9223372036854775808 ≤ z ∧ z ≤ 9223372036854775807 → Spec Tryz.prog 30 [.int .i64 z] [] [] (fun v D' M' => ∃ (a1 a2 : Option Addr) (n1 c1 n2 c2 : Nat), v = .tuple #[.agg (inC (md m).1 a1 n1 c1).toArray, .slice a2 n2 c2] ∧ ((md m).2.1.length = n1) ∧ ((md m).2.2.length = n2) ∧ D' = [rsl 32 a1 n1 c1 ((md m).2.1.map iC), rsl 34 a2 n2 c2 ((md m).2.2.map obC)] ∧ M' = []) := by
 induction m using Nat.strongRecOn with
 | ind m ih => exact fun z hz hb => made_step hz hb fun k hk => ih k hk (k : Int) jO jO
theorem made_spec {z : Int} (hb : -9223372036854775808 ≤ z ∧ z ≤ 9223372036854775807) : Spec Tryz.prog 30 [.int .i64 z] [] [] (fun v D' M' => ∃ (a1 a2 : Option Addr) (n1 c1 n2 c2 : Nat), v = .tuple #[.agg (inC (md (z % 8).toNat).1 a1 n1 c1).toArray, .slice a2 n2 c2] ∧ ((md (z % 8).toNat).2.1.length = n1) ∧ ((md (z % 8).toNat).2.2.length = n2) ∧ D' = [rsl 32 a1 n1 c1 ((md (z % 8).toNat).2.1.map iC), rsl 34 a2 n2 c2 ((md (z % 8).toNat).2.2.map obC)] ∧ M' = []) := made_all _ z rfl hb
theorem same15_spec {a b : Option Addr} {n c m d : Nat} {xs : List ID32} {us : List (List UInt8)} (hn : n ≤ 1000000) (hm : m ≤ 1000000) : Spec Tryz.prog 16 [.slice a n c, .slice b m d] [rsl 32 a n c (xs.map iC), rsl 1 b m d (us.map ys)] [] (fun v D' M' => v = .bool (decide (xs.map (·.1) = us)) ∧ D' = [] ∧ M' = []) := by
 refine zC (n := 27) Tryz.func16 ?_
 intro σ D M
 refine yH (a := a) (len := n) (cap := c) (rows := xs.map iC) qM (fun hxl hxc => ?_)
 rw [List.length_map] at hxl
 refine yH (a := b) (len := m) (cap := d) (rows := us.map ys) qM (fun hul huc => ?_)
 rw [List.length_map] at hul
 
 refine z6 (z8 (z9 rfl rfl (z7 (z4 (z6 (z6 (z8 (z5 rfl rfl (y2 rfl zA rfl (z5 rfl rfl (y2 rfl yL rfl (yx rfl rfl rfl (z7 (z4 (zo rfl (fun h10 => ?_) (fun h10 => ?_))))))))))))))))
 ·try simp only [dq] at h10
  exact z6 (z8 (z9 rfl rfl (z7 (z4 (zi (zD (zz rfl rfl ⟨congrArg Value.bool (decide_eq_false (fun q => by have := congrArg List.length q; rw [List.length_map] at this; omega)).symm, rfl, rfl⟩ qD qF)))))))
 ·try simp only [dq] at h10
  refine zm (z4 (z6 (z6 (z8 (z5 rfl rfl (y2 rfl yL rfl (z5 rfl rfl (z7 (z4 (zr (zX (fun K' D' M' μ => ∃ (i : Nat), (i ≤ m ∧ (xs.map (·.1)).take i = us.take i) ∧ K' = [(13, .int .i64 (i : Int))] ∧ D' = [] ∧ M' = [] ∧ μ = m - i) (.c 0 rfl <| .c 1 rfl <| .c 12 rfl <| za _) (⟨0, ⟨Nat.zero_le _, rfl⟩, rfl, rfl, rfl, rfl⟩) (.c 13 rfl <| za _) qD qS ?_)))))))))))
  rintro K1 D1 M1 m1 ⟨i, ⟨hi, heq⟩, rfl, rfl, rfl, rfl⟩
  refine zF qA qA qA ?_
  refine z6 (z8 (zQ rfl rfl rfl (z7 (z4 (z6 (zo rfl (fun h14 => ?_) (fun h14 => ?_)))))))
  ·try simp only [dq] at h14
   refine zm (z4 (z6 (zr (z6 (z8 (z5 rfl rfl (z9 rfl rfl (z7 (z4 (z6 ?_))))))))))
   have hgx : xs[i]? = some (gd xs i) := zJ jO
   obtain ⟨x, hx_⟩ : ∃ z, z = gd xs i := ⟨_, rfl⟩
   rw [← hx_] at hgx
   clear hx_
   have hrx : (xs.map iC)[i]? = some (iC x) := zU hgx
   have hx32 := x.2
   have hx3 := zT x
   have hgu : us[i]? = some (gd us i) := zJ jO
   obtain ⟨u, hu_⟩ : ∃ z, z = gd us i := ⟨_, rfl⟩
   rw [← hu_] at hgu
   clear hu_
   have hru : (us.map ys)[i]? = some (ys u) := zU hgu
   refine T.rslAddr (rows := xs.map iC) qM (fun e => by have := congrArg List.length e; rw [List.length_map] at this; simp only [List.length_nil] at this; omega) (fun bo oo ha => ?_)
   subst ha
   refine T.rslAddr (rows := us.map ys) qM (fun e => by have := congrArg List.length e; rw [List.length_map] at this; simp only [List.length_nil] at this; omega) (fun bq oq hb => ?_)
   subst hb
   refine yC qk qk (z5 rfl rfl (z5 rfl rfl (L.idxR (i := i) rfl zA zN rfl rfl qM jR qI qG ?_)))
   refine zp rfl zu rfl (x8 qM hx3) ?_
   refine zW rfl (ev1 rfl) qD qS (obytes_spec (l := x.1) hx32) jF ?_
   refine z5 rfl rfl (z5 rfl rfl (L.idxR (i := i) rfl yL sz9 rfl rfl qM jR qI qG ?_))
   refine zh rfl sc9 rfl qC ?_
   refine L.neS rfl rfl rfl ?_
   refine yA (z4 (zo rfl (fun h25 => ?_) (fun h25 => ?_)))
   ·try simp only [dq] at h25
    exact z6 (z8 (z9 rfl rfl (z7 (z4 (zi (y3 (zD (zD (y3 (zD (zz rfl rfl ⟨congrArg Value.bool (decide_eq_false (fun q => by rw [← q, List.getElem?_map, hgx] at hgu; exact h25 (Option.some.inj hgu))).symm, rfl, rfl⟩ qD qF)))))))))))
   ·try simp only [dq] at h25
    refine zm (zI (z4 (z8 (zH rfl rfl rfl jO ?_))))
    exact z5 rfl rfl (z7 (z4 (zM ⟨i + 1, ⟨by omega, eq_snoc hgx hgu heq h25⟩, rfl, rfl, rfl, rfl⟩ qI (.c 13 rfl <| za _) (.c 0 rfl <| .c 1 rfl <| .c 12 rfl <| za _) qD qD qF)))
  ·try simp only [dq] at h14
   obtain rfl : m = i := by omega
   rw [List.take_of_length_le (by rw [List.length_map]; omega), List.take_of_length_le jO] at heq
   exact zR (zq (zq (zS (z4 (z6 (z8 (z9 rfl rfl (z7 (z4 (zi (zz rfl rfl ⟨congrArg Value.bool (decide_eq_true heq).symm, rfl, rfl⟩ qD qF)))))))))))
end Cv
