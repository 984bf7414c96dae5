/-
  The walks: the reference of tables and chunks.
-/
import Derived.Test.YtcilkdnbbebjgaaGreatYa11
import Derived.Test.YtcilkdnbbebjgaaGreatProg
import Derived.KernelRfl
set_option linter.unusedVariables false
set_option linter.unusedSimpArgs false
set_option linter.unusedSectionVars false
set_option maxRecDepth 10000
namespace Cv
open Go Go.Proofs
/-! ## the reference of info.Of: plain laws -/
theorem gAcc_take (b : List UInt8) : ∀ j k, j ≤ k → k ≤ b.length → gAcc (b.take k) j = gAcc b j
  | 0, _, _, _ => rfl
  | j + 1, k, h, hk => by
    have e : gd (b.take k) j = gd b j := by
      have h1 : (b.take k)[j]? = some (gd (b.take k) j) := gd_get (by rw [List.length_take]; omega)
      rw [List.getElem?_take_of_lt (by omega)] at h1
      have h2 : b[j]? = some (gd b j) := gd_get (by omega)
      rw [h2] at h1; exact (Option.some.inj h1).symm
    unfold gAcc
    rw [gAcc_take b j k (by omega) hk, e]
theorem gAcc_s (b : List UInt8) (j : Nat) : gAcc b (j + 1) = gAcc b j * 256 + (gd b j).toNat := rfl
@[reducible] def ur (z : Int) : List Value := [U z]
theorem gearT_take {seed : List UInt8} {i : Nat} (h : i < 256) : (gearT seed).take (i + 1) = (gearT seed).take i ++ [gearOne seed i] := by
  have e : (gearT seed)[i]? = some (gearOne seed i) := by
    unfold gearT; rw [List.getElem?_map, List.getElem?_range h]; rfl
  rw [List.take_add_one, e]; rfl
/-! ### where the first chunk ends -/
def endG (T : List Int) (s : List UInt8) : Nat → Nat → Nat
  | 0, _ => s.length
  | f + 1, n => if endB n (rollL T (s.take n)) then n else endG T s f (n + 1)
def endR (T : List Int) (s : List UInt8) : Nat := endG T s s.length 1
theorem endG_t {T : List Int} {s : List UInt8} {f n : Nat} (h : endB n (rollL T (s.take n)) = true) : endG T s (f + 1) n = n := by unfold endG; rw [if_pos h]
theorem endG_f {T : List Int} {s : List UInt8} {f n : Nat} (h : endB n (rollL T (s.take n)) = false) : endG T s (f + 1) n = endG T s f (n + 1) := by rw [endG, if_neg (by rw [h]; decide)]
structure EndI (T : List Int) (s : List UInt8) (j : Nat) : Prop where
  le : j ≤ s.length
  no : ∀ i, 1 ≤ i → i ≤ j → endB i (rollL T (s.take i)) = false
  eq : endR T s = endG T s (s.length - j) (j + 1)
theorem EndI.zero (T : List Int) (s : List UInt8) : EndI T s 0 := ⟨Nat.zero_le _, fun i h1 h2 => by omega, rfl⟩
theorem EndI.next {T : List Int} {s : List UInt8} {j : Nat} (h : EndI T s j) (hj : j < s.length) (e : endB (j + 1) (rollL T (s.take (j + 1))) = false) : EndI T s (j + 1) :=
  ⟨hj, fun i h1 h2 => by
    rcases Nat.lt_or_ge i (j + 1) with q | q
    · exact h.no i h1 (by omega)
    · obtain rfl : i = j + 1 := by omega
      exact e, by rw [h.eq, show s.length - j = (s.length - (j + 1)) + 1 by omega, endG_f e]⟩
theorem EndI.hit {T : List Int} {s : List UInt8} {j : Nat} (h : EndI T s j) (hj : j < s.length) (e : endB (j + 1) (rollL T (s.take (j + 1))) = true) : endR T s = j + 1 := by
  rw [h.eq, show s.length - j = (s.length - (j + 1)) + 1 by omega, endG_t e]
theorem EndI.fin {T : List Int} {s : List UInt8} (h : EndI T s s.length) : endR T s = s.length := by rw [h.eq, Nat.sub_self]; rfl
theorem endI_all (T : List Int) (s : List UInt8) : ∀ f j, j + f = s.length → EndI T s j → (∃ n, EndI T s n ∧ n < s.length ∧ endB (n + 1) (rollL T (s.take (n + 1))) = true) ∨ EndI T s s.length
  | 0, j, h, hI => .inr (by rw [← h]; exact hI)
  | f + 1, j, h, hI => by
    cases e : endB (j + 1) (rollL T (s.take (j + 1))) with
    | true => exact .inl ⟨j, hI, by omega, e⟩
    | false => exact endI_all T s f (j + 1) (by omega) (hI.next (by omega) e)
theorem cutW_no {T : List Int} {s : List UInt8} : ∀ j, j ≤ s.length → (∀ i, 1 ≤ i → i ≤ j → endB i (rollL T (s.take i)) = false) → cutW T ([], []) (s.take j) = ([], s.take j)
  | 0, _, _ => rfl
  | j + 1, h, k => by
    have hg : s[j]? = some (gd s j) := gd_get (by omega)
    have ht : s.take (j + 1) = s.take j ++ [gd s j] := by rw [List.take_add_one, hg]; rfl
    have hl : (s.take j).length = j := by rw [List.length_take]; omega
    rw [cutW_s hg, cutW_no j (by omega) (fun i h1 h2 => k i h1 (by omega))]
    have e := k (j + 1) (by omega) (Nat.le_refl _)
    rw [ht, rollL_s] at e
    rw [cutS_no (by show endB ((s.take j).length + 1) _ = false; rw [hl]; exact e), ht]
theorem cutW_pre {T : List Int} : ∀ (l : List UInt8) (u : List (List UInt8)) (q : List UInt8), cutW T (u, q) l = (u ++ (cutW T ([], q) l).1, (cutW T ([], q) l).2)
  | [], u, q => by show (u, q) = (u ++ [], q); rw [List.append_nil]
  | c :: l, u, q => by
    show cutW T (cutS T (u, q) c) l = (u ++ (cutW T (cutS T ([], q) c) l).1, (cutW T (cutS T ([], q) c) l).2)
    by_cases e : endB (q.length + 1) (rollN T (rollL T q) c) = true
    · rw [cutS_yes (s := (u, q)) e, cutS_yes (s := ([], q)) e, cutW_pre l (u ++ [q ++ [c]]), cutW_pre l ([] ++ [q ++ [c]])]
      simp
    · have e' : endB (q.length + 1) (rollN T (rollL T q) c) = false := by simpa using e
      rw [cutS_no (s := (u, q)) e', cutS_no (s := ([], q)) e', cutW_pre l u]
theorem endR_in {T : List Int} {s : List UInt8} (h : s ≠ []) : 1 ≤ endR T s ∧ endR T s ≤ s.length := by
  have hl := List.length_pos_iff.2 h
  rcases endI_all T s s.length 0 (Nat.zero_add _) (.zero T s) with ⟨n, hI, hn, e⟩ | hI
  · rw [hI.hit hn e]; omega
  · rw [hI.fin]; omega
theorem chn_step {T : List Int} {s : List UInt8} (h : s ≠ []) : chnF T s = s.take (endR T s) :: chnF T (s.drop (endR T s)) := by
  rcases endI_all T s s.length 0 (Nat.zero_add _) (.zero T s) with ⟨n, hI, hn, e⟩ | hI
  · rw [hI.hit hn e]
    have hg : s[n]? = some (gd s n) := gd_get hn
    have ht : s.take (n + 1) = s.take n ++ [gd s n] := by rw [List.take_add_one, hg]; rfl
    have hl : (s.take n).length = n := by rw [List.length_take]; omega
    have h1 : cutW T ([], []) (s.take (n + 1)) = ([s.take (n + 1)], []) := by
      rw [cutW_s hg, cutW_no n hI.le hI.no]
      rw [ht, rollL_s] at e
      rw [cutS_yes (by show endB ((s.take n).length + 1) _ = true; rw [hl]; exact e), ht]; rfl
    have h2 : cutW T ([], []) s = ([s.take (n + 1)] ++ (cutW T ([], []) (s.drop (n + 1))).1, (cutW T ([], []) (s.drop (n + 1))).2) := by
      rw [← cutW_pre, ← h1]
      show _ = (s.drop (n + 1)).foldl (cutS T) ((s.take (n + 1)).foldl (cutS T) ([], []))
      rw [← List.foldl_append, List.take_append_drop]; rfl
    unfold chnF
    rw [h2]; rfl
  · rw [hI.fin, List.drop_length, List.take_length]
    have h1 := cutW_no (T := T) s.length (Nat.le_refl _) hI.no
    rw [List.take_length] at h1
    unfold chnF
    rw [h1]
    show [] ++ lastC s = s :: ([] ++ lastC [])
    unfold lastC
    rw [if_neg h, if_pos rfl]; rfl
theorem chn_nil {T : List Int} : chnF T [] = [] := rfl
theorem endB_t {n : Nat} {v : Int} (h : 32 ≤ n ∧ (256 ≤ n ∨ (n < 96 ∧ bitsAnd .u64 v (mskP 8) = 0) ∨ (96 ≤ n ∧ bitsAnd .u64 v (mskP 5) = 0))) : true = endB n v := (decide_eq_true h).symm
theorem endB_f {n : Nat} {v : Int} (h : ¬ (32 ≤ n ∧ (256 ≤ n ∨ (n < 96 ∧ bitsAnd .u64 v (mskP 8) = 0) ∨ (96 ≤ n ∧ bitsAnd .u64 v (mskP 5) = 0)))) : false = endB n v := (decide_eq_false h).symm
theorem endB_d {n : Nat} {v : Int} {p : Prop} [Decidable p] (h : p ↔ (32 ≤ n ∧ (256 ≤ n ∨ (n < 96 ∧ bitsAnd .u64 v (mskP 8) = 0) ∨ (96 ≤ n ∧ bitsAnd .u64 v (mskP 5) = 0)))) : decide p = endB n v := decide_eq_decide.2 h
/-! ### names with one more -/
def wthS (z : ID32) (s : List ID32 × Bool) (x : ID32) : List ID32 × Bool :=
  if !s.2 && (bless z.1 x.1 || decide (z.1 = x.1)) then (if x.1 ≠ z.1 then s.1 ++ [z] ++ [x] else s.1 ++ [z], true) else (if x.1 ≠ z.1 then s.1 ++ [x] else s.1, s.2)
def wthL (l : List ID32) (z : ID32) : List ID32 × Bool := l.foldl (wthS z) ([], false)
def withF (l : List ID32) (z : ID32) : List ID32 := if (wthL l z).2 then (wthL l z).1 else (wthL l z).1 ++ [z]
theorem wthL_s {l : List ID32} {z x : ID32} {i : Nat} (h : l[i]? = some x) : wthL (l.take (i + 1)) z = wthS z (wthL (l.take i) z) x := by
  unfold wthL; rw [List.take_add_one, h, List.foldl_append]; rfl
theorem wth_true (z : ID32) : ∀ (l : List ID32) (o : List ID32), l.foldl (wthS z) (o, true) = (o ++ l.filter (fun x => decide (x ≠ z)), true)
  | [], o => by simp
  | x :: l, o => by
    show l.foldl (wthS z) (wthS z (o, true) x) = _
    by_cases e : x = z
    · subst e
      have : wthS x (o, true) x = (o, true) := by unfold wthS; simp
      rw [this, wth_true x l o]; simp
    · have e2 : x.1 ≠ z.1 := fun q => e (Subtype.ext q)
      have : wthS z (o, true) x = (o ++ [x], true) := by unfold wthS; simp [e2]
      rw [this, wth_true z l (o ++ [x])]
      simp [e]
def insW (z : ID32) : List ID32 → List ID32
  | [] => [z]
  | x :: l => if bless z.1 x.1 || decide (z.1 = x.1) then z :: (x :: l).filter (fun x => decide (x ≠ z)) else x :: insW z l
theorem wth_ins (z : ID32) : ∀ (l o : List ID32), (if (l.foldl (wthS z) (o, false)).2 then (l.foldl (wthS z) (o, false)).1 else (l.foldl (wthS z) (o, false)).1 ++ [z]) = o ++ insW z l
  | [], o => rfl
  | x :: l, o => by
    have e0 : (x :: l).foldl (wthS z) (o, false) = l.foldl (wthS z) (wthS z (o, false) x) := rfl
    rw [e0]
    by_cases c : (bless z.1 x.1 || decide (z.1 = x.1)) = true
    · have e1 : insW z (x :: l) = z :: (x :: l).filter (fun x => decide (x ≠ z)) := by rw [insW, if_pos c]
      rw [e1]
      by_cases e : x = z
      · subst e
        have : wthS x (o, false) x = (o ++ [x], true) := by unfold wthS; rw [if_pos (by rw [c]; rfl)]; simp
        rw [this, wth_true]; simp
      · have e2 : x.1 ≠ z.1 := fun q => e (Subtype.ext q)
        have : wthS z (o, false) x = (o ++ [z] ++ [x], true) := by unfold wthS; rw [if_pos (by rw [c]; rfl)]; simp [e2]
        rw [this, wth_true]; simp [e]
    · have e1 : insW z (x :: l) = x :: insW z l := by rw [insW, if_neg c]
      have ne : x.1 ≠ z.1 := fun q => c (by rw [q]; simp)
      have : wthS z (o, false) x = (o ++ [x], false) := by unfold wthS; rw [if_neg (by simpa using c)]; simp [ne]
      rw [this, wth_ins z l (o ++ [x]), e1]; simp
theorem withF_ins (l : List ID32) (z : ID32) : withF l z = insW z l := by
  have := wth_ins z l []
  rw [List.nil_append] at this; exact this
theorem id_lt_trans {x y z : ID32} (h : x.1 < y.1) (k : y.1 < z.1) : x.1 < z.1 := cmpB_lt.1 (cmpB_trans (cmpB_lt.2 h) (cmpB_lt.2 k))
theorem insW_asc (z : ID32) : ∀ {l : List ID32}, l.Pairwise (fun x y => x.1 < y.1) → (insW z l).Pairwise (fun x y => x.1 < y.1) ∧ ∀ w, w ∈ insW z l ↔ w ∈ l ∨ w = z
  | [], _ => ⟨List.pairwise_singleton _ _, fun w => by simp [insW]⟩
  | x :: l, h => by
    obtain ⟨h1, h2⟩ := List.pairwise_cons.1 h
    by_cases c : (bless z.1 x.1 || decide (z.1 = x.1)) = true
    · rw [insW, if_pos c]
      have hzx : z.1 < x.1 ∨ z = x := by
        rcases Bool.or_eq_true_iff.1 c with q | q
        · exact .inl (cmpB_lt.1 (bless_iff.1 q))
        · exact .inr (Subtype.ext (of_decide_eq_true q))
      constructor
      · refine List.pairwise_cons.2 ⟨fun w hw => ?_, h.filter _⟩
        obtain ⟨hw1, hw2⟩ := List.mem_filter.1 hw
        have hwz : w ≠ z := by simpa using hw2
        rcases List.mem_cons.1 hw1 with q | q
        · subst q; exact hzx.resolve_right fun e => hwz e.symm
        · rcases hzx with q2 | q2
          · exact id_lt_trans q2 (h1 w q)
          · rw [q2]; exact h1 w q
      · intro w
        rw [List.mem_cons, List.mem_filter]
        by_cases e : w = z
        · simp [e]
        · simp [e]
    · rw [insW, if_neg c]
      obtain ⟨i1, i2⟩ := insW_asc z h2
      have hxz : x.1 < z.1 := by
        have n1 : ¬ cmpB z.1 x.1 < 0 := fun q => c (by rw [bless_iff.2 q]; rfl)
        have n2 : cmpB z.1 x.1 ≠ 0 := fun q => c (by rw [decide_eq_true (cmpB_eq q)]; simp)
        have n3 := cmpB_neg z.1 x.1
        exact cmpB_lt.1 (by omega)
      constructor
      · refine List.pairwise_cons.2 ⟨fun w hw => ?_, i1⟩
        rcases (i2 w).1 hw with q | q
        · exact h1 w q
        · rw [q]; exact hxz
      · intro w
        rw [List.mem_cons, List.mem_cons, i2]
        constructor
        · rintro (q | q | q) <;> simp [q]
        · rintro ((q | q) | q) <;> simp [q]
def sortF (l : List ID32) : List ID32 := l.foldl withF []
theorem sortF_s {l : List ID32} {x : ID32} {i : Nat} (h : l[i]? = some x) : sortF (l.take (i + 1)) = withF (sortF (l.take i)) x := by
  unfold sortF; rw [List.take_add_one, h, List.foldl_append]; rfl
theorem sortF_go : ∀ (l a : List ID32), a.Pairwise (fun x y => x.1 < y.1) → (l.foldl withF a).Pairwise (fun x y => x.1 < y.1) ∧ ∀ w, w ∈ l.foldl withF a ↔ w ∈ l ∨ w ∈ a
  | [], a, h => ⟨h, fun w => by simp⟩
  | x :: l, a, h => by
    obtain ⟨h1, h2⟩ := insW_asc x h
    rw [← withF_ins] at h1 h2
    obtain ⟨h3, h4⟩ := sortF_go l (withF a x) h1
    refine ⟨h3, fun w => ?_⟩
    show w ∈ l.foldl withF (withF a x) ↔ _
    rw [h4, h2, List.mem_cons]
    constructor
    · rintro (q | q | q) <;> simp [q]
    · rintro ((q | q) | q) <;> simp [q]
theorem sortF_names (l : List ID32) : NamesF l (sortF l) := by
  obtain ⟨h1, h2⟩ := sortF_go l [] List.Pairwise.nil
  exact ⟨h1, fun z => by rw [show sortF l = l.foldl withF [] from rfl, h2]; simp⟩
theorem filt_len (z : ID32) (l : List ID32) : (l.filter (fun x => decide (x ≠ z))).length ≤ l.length := List.length_filter_le _ _
theorem insW_len (z : ID32) : ∀ l : List ID32, (insW z l).length ≤ l.length + 1
  | [] => Nat.le_refl _
  | x :: l => by
    rw [insW]
    split
    · have := filt_len z (x :: l); rw [List.length_cons]; omega
    · have := insW_len z l; rw [List.length_cons, List.length_cons]; omega
theorem sortF_len : ∀ (l : List ID32) (i : Nat), (sortF (l.take i)).length ≤ i := by
  intro l i
  induction i with
  | zero => exact Nat.le_refl _
  | succ i ih =>
    cases h : l[i]? with
    | none => rw [List.take_add_one, h]; simp; omega
    | some x => rw [sortF_s h, withF_ins]; have := insW_len x (sortF (l.take i)); omega
/-! ### levels: at most eight -/
def lvT (k : Nat) : Nat := 8 ^ (6 - k)
theorem lvT_s {k n : Nat} (h : n ≤ lvT k) : gN n ≤ lvT (k + 1) := by
  unfold lvT at h ⊢
  unfold gN
  rcases Nat.lt_or_ge k 6 with q | q
  · rw [show 6 - k = (6 - (k + 1)) + 1 by omega, Nat.pow_succ] at h
    omega
  · rw [show 6 - k = 0 by omega] at h
    rw [show 6 - (k + 1) = 0 by omega]
    simp only [Nat.pow_zero] at h ⊢
    omega
theorem lvT_1 : lvT 1 = 32768 := rfl
theorem lvT_9 {k : Nat} (h : 9 ≤ k) : lvT k = 1 := by unfold lvT; rw [show 6 - k = 0 by omega, Nat.pow_zero]
theorem ptR_len (p : Pt) : (ptR p).length = 2 := rfl
theorem one_pR {p : Pt} : ∀ u ∈ ptR p, u.oneCell' = true := fun u hu => by
  simp only [ptR, List.mem_cons, List.not_mem_nil, or_false] at hu
  rcases hu with rfl | rfl <;> rfl
theorem one_oR {o : Ob} : ∀ u ∈ obR o, u.oneCell' = true := fun u hu => by
  simp only [obR, List.mem_cons, List.not_mem_nil, or_false] at hu
  rcases hu with rfl | rfl | rfl <;> rfl
theorem one_oRs {l : List Ob} : ∀ u ∈ (l.map obR).flatten, u.oneCell' = true := fun u hu => by
  obtain ⟨r, hr, hu⟩ := List.mem_flatten.1 hu
  obtain ⟨x, _, rfl⟩ := List.mem_map.1 hr
  exact one_oR u hu
theorem ofI_err {x : Tr} {l : List ID32} (h : (ofI x l).2.2.2 ≠ 0) : ofI x l = (zP, [], [], (ofI x l).2.2.2) := by
  unfold ofI at h ⊢
  split
  · rfl
  · split
    · rfl
    · split
      · rfl
      · rename_i a b c
        rw [if_neg a, if_neg b, if_neg c] at h
        exact absurd rfl h
def gDig (seed : List UInt8) (i : Nat) : List UInt8 := digest ([103, 101, 97, 114] ++ seed ++ [UInt8.ofNat i])
theorem gDig_len (seed : List UInt8) (i : Nat) : (gDig seed i).length = 32 := digest_len _
theorem gDig_one (seed : List UInt8) (i : Nat) : gearOne seed i = ((gAcc (gDig seed i) 8 : Nat) : Int) := rfl
theorem gDig_eq (seed : List UInt8) (i : Nat) : digest ([103, 101, 97, 114] ++ seed ++ [UInt8.ofNat i]) = gDig seed i := rfl
theorem rsl_grpR {a : Option Addr} {n c : Nat} {ps : List Pt} {z : Hp} (i : Nat) (hn : ps.length = n) (hi : 8 * i ≤ n) (H : rsl 2 a n c (ps.map ptR) z) : rsl 2 (cutA a c (8 * i) 2) (min (8 * i + 8) n - 8 * i) (c - 8 * i) ((grp ps i).map ptR) z := by
  have h3 := rsl_cut (l := 8 * i) (h := min (8 * i + 8) n) (by omega) (Nat.min_le_right _ _) H
  have e : ((ps.map ptR).drop (8 * i)).take (min (8 * i + 8) n - 8 * i) = (grp ps i).map ptR := by
    unfold grp
    rw [← List.map_drop, ← List.map_take]
    rcases Nat.le_total (8 * i + 8) n with q | q
    · congr 2; omega
    · rw [List.take_of_length_le (by rw [List.length_drop]; omega), List.take_of_length_le (by rw [List.length_drop]; omega)]
  rw [e] at h3
  exact h3
structure BuR (cs : List (List UInt8)) (es : List Value) (os : List Ob) (e : Int) : Prop where
  err : e = (bldM cs).2.2
  len : es.length = 2
  one : ∀ u ∈ es, u.oneCell' = true
  val : e = 0 → es = ptR (bldM cs).1 ∧ os = (bldM cs).2.1
theorem bld_zero {cs : List (List UInt8)} (h : ∀ c ∈ cs, ¬ badC c) (h0 : cs.length = 0) : bldM cs = (zP, [], 10) := by
  obtain rfl : cs = [] := List.length_eq_zero_iff.1 h0
  exact bld_0 h rfl
theorem one_z2 : ∀ u ∈ [S ([] : List UInt8), Value.int .i64 0], u.oneCell' = true := fun u hu => by
  simp only [List.mem_cons, List.not_mem_nil, or_false] at hu
  rcases hu with rfl | rfl <;> rfl
theorem one_z3 : ∀ u ∈ [S ([] : List UInt8), Value.int .i64 0, Value.slice none 0 0], u.oneCell' = true := fun u hu => by
  simp only [List.mem_cons, List.not_mem_nil, or_false] at hu
  rcases hu with rfl | rfl | rfl <;> rfl
theorem zv117 : ∀ w, (zeroValue 117).run Tryz.prog w = .ok (Value.int .u64 0) w := fun w => by kernel_rfl
theorem bs94 : Bs Tryz.prog 94 117 1 [Value.int .u64 0] := bs_of Tryz.underlying94 (fun w => by kernel_rfl) zv117 rfl rfl (by decide)
theorem el117 : El Tryz.prog 117 1 8 := ⟨_, _, rfl, rfl, by kernel_rfl, by kernel_rfl, by kernel_rfl⟩
set_option maxHeartbeats 400000 in
theorem rnumb_spec {l : List UInt8} (hl : l.length ≤ 8) : Spec Tryz.prog 123 [S l] [] [] (fun v D' M' => v = .int .u64 (gAcc l l.length : Nat) ∧ D' = [] ∧ M' = []) := by
 refine Spec.intro (n := 19) Tryz.func123 rfl rfl (by decide) (Nat.le_of_ble_eq_true rfl) rfl (fun _ => qA) (fun _ => qA) ?_
 intro σ D M
 refine T.seq (T.region ?_)
 refine L.assign rfl rfl ?_
 refine L.nil ?_
 refine T.thenN (T.seq (T.region ?_))
 refine L.assign rfl rfl ?_
 refine L.nil ?_
 refine T.thenN (T.seq (T.seq (T.region ?_)))
 refine L.assign rfl rfl ?_
 refine L.nil ?_
 refine T.thenN (T.block ?_)
 refine T.loop (fun K' D' M' μ => ∃ (i : Nat), (i ≤ l.length) ∧ K' = [(4, .int .i64 (i : Int)), (3, .int .u64 ((gAcc l i : Nat) : Int))] ∧ D' = [] ∧ M' = [] ∧ μ = l.length - i) (.cons (t := 0) rfl <| SubK.nil _) (⟨0, Nat.zero_le _, rfl, rfl, rfl, rfl⟩) (.cons (t := 4) rfl <| .cons (t := 3) rfl <| SubK.nil _) qD qS ?_
 rintro K1 D1 M1 m1 ⟨i, hi, rfl, rfl, rfl, rfl⟩
 refine T.norm3 qA qA qA ?_
 refine T.seq (T.seq (T.region ?_))
 refine L.move rfl rfl ?_
 refine L.move rfl rfl ?_
 refine L.lenStr rfl Tryz.underlying9 rfl ?_
 refine L.ltI rfl rfl rfl ?_
 refine L.nil ?_
 refine T.thenN ?_
 refine T.cond rfl (fun h8 => ?_) (fun h8 => ?_)
 ·try simp only [dq] at h8
  refine T.skip (T.thenN (T.seq (T.block ?_)))
  have hgi : l[i]? = some (gd l i) := gd_get (by omega)
  have ga := gAcc_lt l i
  have gb := pow256' (j := i) (by omega)
  have gc := (gd l i).toNat_lt
  have ge := gAcc_s l i
  refine T.region ?_
  refine L.move rfl rfl ?_
  refine L.mulU rfl rfl rfl qI ?_
  refine L.move rfl rfl ?_
  refine L.move rfl rfl ?_
  refine L.indexS (i := i) rfl Tryz.underlying9 rfl rfl (by first | rfl | omega | (simp; done)) (by first | assumption | exact gd_get qL) ?_
  refine L.convU (z := ((gd l i).toNat : Int)) rfl Tryz.underlying5 Tryz.underlying117 rfl (by omega) ?_
  refine L.addU rfl rfl rfl qI ?_
  refine L.known (t := 17) (u := .int .u64 ((gAcc l (i + 1) : Nat) : Int)) rfl (congrArg (Value.int .u64) (by rw [ge]; omega)) ?_
  refine L.assign rfl rfl ?_
  refine L.nil ?_
  refine T.blkN (T.thenN (T.region ?_))
  refine L.move rfl rfl ?_
  refine L.addN rfl rfl rfl (by omega) ?_
  refine L.assign rfl rfl ?_
  refine L.nil ?_
  refine T.thenN ?_
  exact T.back ⟨i + 1, (by omega), rfl, rfl, rfl, rfl⟩ qI (.cons (t := 4) rfl <| .cons (t := 3) rfl <| SubK.nil _) (.cons (t := 0) rfl <| SubK.nil _) qD qD qF
 ·try simp only [dq] at h8
  obtain rfl : i = l.length := by omega
  refine T.exit (T.thenX (T.thenX (T.blkX (T.thenN (T.seq (T.region ?_))))))
  refine L.move rfl rfl ?_
  refine L.assign rfl rfl ?_
  refine L.nil ?_
  refine T.thenN (T.ret ?_)
  exact T.ret1 rfl rfl ⟨rfl, rfl, rfl⟩ qD qF
set_option maxHeartbeats 400000 in
theorem rone_spec {seed : List UInt8} {i : Nat} (hs : seed.length ≤ 1000000) : Spec Tryz.prog 87 [S seed, Y (UInt8.ofNat i)] [] [] (fun v D' M' => v = .int .u64 (gearOne seed i) ∧ D' = [] ∧ M' = []) := by
 refine Spec.intro (n := 14) Tryz.func87 rfl rfl (by decide) (Nat.le_of_ble_eq_true rfl) rfl (fun _ => qA) (fun _ => qA) ?_
 intro σ D M
 obtain ⟨dg, hdg⟩ : ∃ z, z = gDig seed i := ⟨_, rfl⟩
 have h32 : dg.length = 32 := by rw [hdg]; exact gDig_len _ _
 have hgo : gearOne seed i = ((gAcc dg 8 : Nat) : Int) := by rw [hdg]; exact gDig_one _ _
 have hl8 : (dg.take 8).length = 8 := by rw [List.length_take]; omega
 have hga := gAcc_take dg 8 8 (Nat.le_refl _) (by omega)
 refine T.seq (T.region ?_)
 refine L.assign rfl rfl ?_
 refine L.nil ?_
 refine T.thenN (T.seq (T.region ?_))
 refine L.move rfl rfl ?_
 refine L.addS rfl rfl rfl qI ?_
 refine L.move rfl rfl ?_
 refine L.buildSlice rfl bs97 (by decide) (BP.one rfl rfl rfl <| BP.doneE (out := []) rfl) (fun b8 => ?_)
 refine L.toOwn (len := 1) qP (rows := ([UInt8.ofNat i] : List UInt8).map yr) (sz := 1) (by rfl) rfl (by simp) ?_
 refine L.ownRsl qP ?_
 refine L.bytesStr rfl Tryz.underlying97 Tryz.underlying5 Tryz.underlying9 rfl qM ?_
 refine L.addS rfl rfl rfl qI ?_
 refine L.callF rfl (evs.cons rfl <| evs.nil) qD qS (rof_spec (m := [103, 101, 97, 114] ++ seed ++ [UInt8.ofNat i]) (by simp; omega)) (by rintro u D1 M1 ⟨rfl, rfl, rfl⟩; exact ⟨rfl, _, qA, qF⟩) ?_
 refine L.known (t := 11) (u := S dg) rfl (congrArg S ((gDig_eq seed i).trans hdg.symm)) ?_
 refine L.sliceS (a := 0) (b := 8) rfl Tryz.underlying9 rfl rfl ⟨_, (by first | rfl | (congr 2; omega))⟩ qI qI ?_
 refine L.callF rfl (evs.cons rfl <| evs.nil) qD qS (rnumb_spec (l := dg.take 8) (by omega)) (by rintro u D1 M1 ⟨rfl, rfl, rfl⟩; exact ⟨rfl, _, qA, qF⟩) ?_
 refine L.known (t := 13) (u := .int .u64 (gearOne seed i)) rfl (congrArg (Value.int .u64) (by rw [hgo, hl8, hga])) ?_
 refine L.assign rfl rfl ?_
 refine L.nil ?_
 refine T.thenN (T.ret ?_)
 exact T.ret1 rfl rfl ⟨rfl, rfl, rfl⟩ qD qF
set_option maxHeartbeats 400000 in
theorem rtable_spec {seed : List UInt8} (hs : seed.length ≤ 1000000) : Spec Tryz.prog 44 [S seed] [] [] (fun v D' M' => ∃ (a' : Option Addr) (c' : Nat), v = .slice a' 256 c' ∧ D' = [] ∧ M' = [own 1 117 a' 256 c' ((gearT seed).map ur)]) := by
 refine Spec.intro (n := 18) Tryz.func44 rfl rfl (by decide) (Nat.le_of_ble_eq_true rfl) rfl (fun _ => qA) (fun _ => qA) ?_
 intro σ D M
 refine T.seq (T.region ?_)
 refine L.assign rfl rfl ?_
 refine L.nil ?_
 refine T.thenN (T.seq (T.region ?_))
 refine L.buildSlice rfl bs94 (by decide) (BP.doneE (out := []) rfl) (fun b5 => ?_)
 refine L.toOwn (len := 0) qP (rows := ((gearT seed).take 0).map ur) (sz := 1) (by rfl) rfl (by simp) ?_
 refine L.assign rfl rfl ?_
 refine L.nil ?_
 refine T.thenN (T.seq (T.seq (T.region ?_)))
 refine L.assign rfl rfl ?_
 refine L.nil ?_
 refine T.thenN (T.block ?_)
 refine T.loop (fun K' D' M' μ => ∃ (i c3 : Nat) (a3 : Option Addr), (i ≤ 256) ∧ K' = [(4, .int .i64 (i : Int)), (3, .slice a3 i c3)] ∧ D' = [] ∧ M' = [own 1 117 a3 i c3 (((gearT seed).take i).map ur)] ∧ μ = 256 - i) (.cons (t := 0) rfl <| SubK.nil _) (⟨0, _, _, Nat.zero_le _, rfl, rfl, rfl, rfl⟩) (.cons (t := 4) rfl <| .cons (t := 3) rfl <| SubK.nil _) qD qS ?_
 rintro K1 D1 M1 m1 ⟨i, c3, a3, hi, rfl, rfl, rfl, rfl⟩
 refine T.norm3 qA qA qA ?_
 refine T.seq (T.seq (T.region ?_))
 refine L.move rfl rfl ?_
 refine L.ltI rfl rfl rfl ?_
 refine L.nil ?_
 refine T.thenN ?_
 refine T.cond rfl (fun h7 => ?_) (fun h7 => ?_)
 ·try simp only [dq] at h7
  refine T.skip (T.thenN (T.seq (T.block (T.region ?_))))
  refine L.move rfl rfl ?_
  refine L.move rfl rfl ?_
  refine L.move rfl rfl ?_
  refine L.convIY rfl Tryz.underlying3 Tryz.underlying5 rfl ?_
  refine L.known (t := 13) (u := Y (UInt8.ofNat i)) rfl (congrArg Y (u8_of (by omega))) ?_
  refine L.callF rfl (evs.cons rfl <| evs.cons rfl <| evs.nil) qD qS (rone_spec (seed := seed) (i := i) hs) (by rintro u D1 M1 ⟨rfl, rfl, rfl⟩; exact ⟨rfl, _, qA, qF⟩) ?_
  refine L.buildSlice rfl bs94 (by decide) (BP.one rfl rfl rfl <| BP.doneE (out := []) rfl) (fun b15 => ?_)
  refine L.append1 rfl Tryz.underlying94 el117 rfl rfl qP qM rfl qO1 qI qI (fun a16 c16 => ?_)
  refine L.assign rfl rfl ?_
  refine L.nil ?_
  refine T.blkN (T.thenN (T.region ?_))
  refine L.move rfl rfl ?_
  refine L.addN rfl rfl rfl (by omega) ?_
  refine L.assign rfl rfl ?_
  refine L.nil ?_
  refine T.thenN ?_
  refine T.ownEq _ (((gearT seed).take (i + 1)).map ur) qP (by rw [gearT_take (by omega), List.map_append]; rfl) ?_
  exact T.back ⟨i + 1, _, _, (by omega), rfl, rfl, rfl, rfl⟩ qI (.cons (t := 4) rfl <| .cons (t := 3) rfl <| SubK.nil _) (.cons (t := 0) rfl <| SubK.nil _) qD qD qF
 ·try simp only [dq] at h7
  obtain rfl : i = 256 := by omega
  refine T.ownEq _ ((gearT seed).map ur) qP (by rw [List.take_of_length_le (by rw [gearT_len]; omega)]) ?_
  refine T.exit (T.thenX (T.thenX (T.blkX (T.thenN (T.seq (T.region ?_))))))
  refine L.move rfl rfl ?_
  refine L.assign rfl rfl ?_
  refine L.nil ?_
  refine T.thenN (T.ret ?_)
  exact T.ret1 rfl rfl ⟨_, _, rfl, rfl, rfl⟩ qD qF
set_option maxHeartbeats 400000 in
theorem rmask_spec {n : Nat} (hn : n ≤ 48) : Spec Tryz.prog 121 [.int .i64 (n : Int)] [] [] (fun v D' M' => v = .int .u64 (mskR n) ∧ D' = [] ∧ M' = []) := by
 refine Spec.intro (n := 25) Tryz.func121 rfl rfl (by decide) (Nat.le_of_ble_eq_true rfl) rfl (fun _ => qA) (fun _ => qA) ?_
 intro σ D M
 refine T.seq (T.region ?_)
 refine L.assign rfl rfl ?_
 refine L.nil ?_
 refine T.thenN (T.seq (T.region ?_))
 refine L.assign rfl rfl ?_
 refine L.nil ?_
 refine T.thenN (T.seq (T.seq (T.region ?_)))
 refine L.assign rfl rfl ?_
 refine L.nil ?_
 refine T.thenN (T.block ?_)
 refine T.loop (fun K' D' M' μ => ∃ (i : Nat), (i ≤ n) ∧ K' = [(4, .int .i64 (i : Int)), (3, .int .u64 (mskR i))] ∧ D' = [] ∧ M' = [] ∧ μ = n - i) (.cons (t := 0) rfl <| SubK.nil _) (⟨0, Nat.zero_le _, rfl, rfl, rfl, rfl⟩) (.cons (t := 4) rfl <| .cons (t := 3) rfl <| SubK.nil _) qD qS ?_
 rintro K1 D1 M1 m1 ⟨i, hi, rfl, rfl, rfl, rfl⟩
 refine T.norm3 qA qA qA ?_
 refine T.seq (T.seq ?_)
 refine T.cutC (fun K' D' M' => ∃ (w : Bool), (w = true ↔ i < n) ∧ K' = [(11, .bool w)] ∧ D' = [] ∧ M' = []) (M0 := []) (.cons (t := 0) rfl <| .cons (t := 3) rfl <| .cons (t := 4) rfl <| SubK.nil _) qS ?_ ?_
 ·skip
  refine T.region ?_
  refine L.move rfl rfl ?_
  refine L.move rfl rfl ?_
  refine L.ltI rfl rfl rfl ?_
  refine L.move rfl rfl ?_
  refine L.part (t := 8) rfl (fun h1 => ?_) (fun h1 => ?_)
  ·try simp only [dq] at h1
   refine L.guardT (dj := 8) rfl rfl rfl ?_
   refine L.move rfl rfl ?_
   refine L.guardT (dj := 8) rfl rfl rfl ?_
   refine L.ltI rfl rfl rfl ?_
   refine L.pickT rfl rfl rfl ?_
   refine L.nil ?_
   refine T.thenN ?_
   exact T.toJoin ⟨_, (by simp_all <;> omega), rfl, rfl, rfl⟩ (.cons (t := 11) rfl <| SubK.nil _) (.cons (t := 0) rfl <| .cons (t := 3) rfl <| .cons (t := 4) rfl <| SubK.nil _) qD qD qF
  ·try simp only [dq] at h1
   refine L.guardF (dj := 8) (c := false) rfl rfl rfl rfl rfl (by decide) ?_
   refine L.guardF (dj := 8) (c := false) rfl rfl rfl rfl rfl (by decide) ?_
   refine L.pickF rfl rfl rfl ?_
   refine L.nil ?_
   refine T.thenN ?_
   exact T.toJoin ⟨_, (by simp_all <;> omega), rfl, rfl, rfl⟩ (.cons (t := 11) rfl <| SubK.nil _) (.cons (t := 0) rfl <| .cons (t := 3) rfl <| .cons (t := 4) rfl <| SubK.nil _) qD qD qF
 rintro _ _ _ ⟨w, hw, rfl, rfl, rfl⟩
 refine T.norm3 qA qA qA ?_
 refine T.thenN ?_
 refine T.cond rfl (fun h11 => ?_) (fun h11 => ?_)
 ·try simp only [dq] at h11
  have hwt := hw.1 h11
  refine T.skip (T.thenN (T.seq (T.block (T.region ?_))))
  refine L.move rfl rfl ?_
  refine L.move rfl rfl ?_
  refine L.remN rfl rfl rfl qI ?_
  refine L.mulN rfl rfl rfl (by omega) ?_
  refine L.subN rfl rfl rfl (by omega) ?_
  refine L.move rfl rfl ?_
  refine L.quoN rfl rfl rfl qI ?_
  refine L.subN rfl rfl rfl (by omega) ?_
  refine L.shlI rfl rfl rfl qI ?_
  refine L.known (t := 22) (u := .int .u64 (mskE i)) rfl (congrArg (Value.int .u64) (by unfold mskE; congr 4; omega)) ?_
  refine L.addI rfl rfl rfl ?_
  refine L.known (t := 23) (u := .int .u64 (mskR (i + 1))) rfl (by rfl) ?_
  refine L.assign rfl rfl ?_
  refine L.nil ?_
  refine T.blkN (T.thenN (T.region ?_))
  refine L.move rfl rfl ?_
  refine L.addN rfl rfl rfl (by omega) ?_
  refine L.assign rfl rfl ?_
  refine L.nil ?_
  refine T.thenN ?_
  exact T.back ⟨i + 1, (by omega), rfl, rfl, rfl, rfl⟩ qI (.cons (t := 4) rfl <| .cons (t := 3) rfl <| SubK.nil _) (.cons (t := 0) rfl <| SubK.nil _) qD qD qF
 ·try simp only [dq] at h11
  have hwf : ¬ i < n := fun e => by have := hw.2 e; rw [h11] at this; cases this
  obtain rfl : i = n := by omega
  refine T.exit (T.thenX (T.thenX (T.blkX (T.thenN (T.seq (T.region ?_))))))
  refine L.move rfl rfl ?_
  refine L.assign rfl rfl ?_
  refine L.nil ?_
  refine T.thenN (T.ret ?_)
  exact T.ret1 rfl rfl ⟨rfl, rfl, rfl⟩ qD qF
set_option maxHeartbeats 400000 in
theorem rzero_spec {x z : Int}  : Spec Tryz.prog 122 [.int .u64 x, .int .u64 z] [] [] (fun v D' M' => v = .bool (decide (bitsAnd .u64 x z = 0)) ∧ D' = [] ∧ M' = []) := by
 refine Spec.intro (n := 9) Tryz.func122 rfl rfl (by decide) (Nat.le_of_ble_eq_true rfl) rfl (fun _ => qA) (fun _ => qA) ?_
 intro σ D M
 refine T.seq (T.region ?_)
 refine L.assign rfl rfl ?_
 refine L.nil ?_
 refine T.thenN (T.seq (T.region ?_))
 refine L.move rfl rfl ?_
 refine L.move rfl rfl ?_
 refine L.andI rfl rfl rfl ?_
 refine L.eqI rfl rfl rfl ?_
 refine L.assign rfl rfl ?_
 refine L.nil ?_
 refine T.thenN (T.ret ?_)
 exact T.ret1 rfl rfl ⟨rfl, rfl, rfl⟩ qD qF
set_option maxHeartbeats 400000 in
theorem rend_spec {a : Option Addr} {c : Nat} {tt : List Int} {s : List UInt8} (hT : tt.length = 256) (hs : s.length ≤ 1000000) : Spec Tryz.prog 86 [.slice a 256 c, S s] [rsl 1 a 256 c (tt.map ur)] [] (fun v D' M' => v = .int .i64 (endR tt s : Nat) ∧ D' = [] ∧ M' = []) := by
 refine Spec.intro (n := 54) Tryz.func86 rfl rfl (by decide) (Nat.le_of_ble_eq_true rfl) rfl (fun _ => qA) (fun _ => qA) ?_
 intro σ D M
 refine T.rslAddr (rows := tt.map ur) qM (fun e => by have := congrArg List.length e; rw [List.length_map] at this; simp only [List.length_nil] at this; omega) (fun tb to ha => ?_)
 subst ha
 refine T.seq (T.region ?_)
 refine L.assign rfl rfl ?_
 refine L.nil ?_
 refine T.thenN (T.seq (T.region ?_))
 refine L.callF rfl (evs.cons rfl <| evs.nil) qD qS (rmask_spec (n := 8) (by decide)) (by rintro u D1 M1 ⟨rfl, rfl, rfl⟩; exact ⟨rfl, _, qA, qF⟩) ?_
 rw [msk_8]
 refine L.assign rfl rfl ?_
 refine L.nil ?_
 refine T.thenN (T.seq (T.region ?_))
 refine L.callF rfl (evs.cons rfl <| evs.nil) qD qS (rmask_spec (n := 5) (by decide)) (by rintro u D1 M1 ⟨rfl, rfl, rfl⟩; exact ⟨rfl, _, qA, qF⟩) ?_
 rw [msk_5]
 refine L.assign rfl rfl ?_
 refine L.nil ?_
 refine T.thenN (T.seq (T.region ?_))
 refine L.assign rfl rfl ?_
 refine L.nil ?_
 refine T.thenN (T.seq (T.seq (T.region ?_)))
 refine L.assign rfl rfl ?_
 refine L.nil ?_
 refine T.thenN (T.block ?_)
 refine T.loop (fun K' D' M' μ => ∃ (j : Nat), (EndI tt s j) ∧ K' = [(8, .int .i64 ((j + 1 : Nat) : Int)), (7, .int .u64 (rollL tt (s.take j)))] ∧ D' = [] ∧ M' = [] ∧ μ = s.length + 1 - j) (.cons (t := 0) rfl <| .cons (t := 1) rfl <| .cons (t := 5) rfl <| .cons (t := 6) rfl <| SubK.nil _) (⟨0, EndI.zero tt s, rfl, rfl, rfl, rfl⟩) (.cons (t := 8) rfl <| .cons (t := 7) rfl <| SubK.nil _) qD qS ?_
 rintro K1 D1 M1 m1 ⟨j, hI, rfl, rfl, rfl, rfl⟩
 refine T.norm3 qA qA qA ?_
 have hjl := hI.le
 refine T.seq (T.seq (T.region ?_))
 refine L.move rfl rfl ?_
 refine L.move rfl rfl ?_
 refine L.lenStr rfl Tryz.underlying9 rfl ?_
 refine L.leI rfl rfl rfl ?_
 refine L.nil ?_
 refine T.thenN ?_
 refine T.cond rfl (fun h14 => ?_) (fun h14 => ?_)
 ·try simp only [dq] at h14
  refine T.skip (T.thenN (T.seq (T.block (T.seq ?_))))
  have hgj : s[j]? = some (gd s j) := gd_get (by omega)
  obtain ⟨c8, hc8⟩ : ∃ c, c = gd s j := ⟨_, rfl⟩
  rw [← hc8] at hgj
  have hc256 : c8.toNat < 256 := by have := c8.toNat_lt; simpa using this
  have hgT : tt[c8.toNat]? = some (gd tt c8.toNat) := gd_get (by omega)
  have hgr : (tt.map ur)[c8.toNat]? = some (ur (gd tt c8.toNat)) := map_get hgT
  have htk : s.take (j + 1) = s.take j ++ [c8] := by rw [List.take_add_one, hgj]; rfl
  have hrl : rollL tt (s.take (j + 1)) = rollN tt (rollL tt (s.take j)) c8 := by rw [htk, rollL_s]
  refine T.region ?_
  refine L.move rfl rfl ?_
  refine L.mulI rfl rfl rfl ?_
  refine L.move rfl rfl ?_
  refine L.move rfl rfl ?_
  refine L.move rfl rfl ?_
  refine L.subN rfl rfl rfl (by omega) ?_
  refine L.indexS (i := j) rfl Tryz.underlying9 rfl rfl (by first | rfl | omega | (simp; done)) (by first | assumption | exact gd_get qL) ?_
  refine L.idx (i := c8.toNat) rfl Tryz.underlying94 sz117 rfl rfl qM (by first | rfl | omega | (simp; done)) qG (fun b24 o24 => ?_)
  refine L.load rfl sc117 rfl qC ?_
  refine L.addI rfl rfl rfl ?_
  refine L.known (t := 26) (u := .int .u64 (rollL tt (s.take (j + 1)))) rfl (congrArg (Value.int .u64) (by rw [hrl, wrapU, wrapU]; unfold rollN; omega)) ?_
  refine L.assign rfl rfl ?_
  refine L.nil ?_
  refine T.thenN (T.seq ?_)
  refine T.cutC (fun K' D' M' => ∃ (w : Bool), (w = endB (j + 1) (rollL tt (s.take (j + 1)))) ∧ K' = [(50, .bool w)] ∧ D' = [] ∧ M' = []) (M0 := []) (.cons (t := 0) rfl <| .cons (t := 1) rfl <| .cons (t := 5) rfl <| .cons (t := 6) rfl <| .cons (t := 7) rfl <| .cons (t := 8) rfl <| SubK.nil _) qS ?_ ?_
  ·skip
   refine T.region ?_
   refine L.move rfl rfl ?_
   refine L.geI rfl rfl rfl ?_
   refine L.move rfl rfl ?_
   refine L.part (t := 29) rfl (fun h1 => ?_) (fun h1 => ?_)
   ·try simp only [dq] at h1
    refine L.guardF (dj := 29) (c := true) rfl rfl rfl rfl rfl (by decide) ?_
    refine L.guardF (dj := 29) (c := true) rfl rfl rfl rfl rfl (by decide) ?_
    refine L.guardF (dj := 29) (c := true) rfl rfl rfl rfl rfl (by decide) ?_
    refine L.guardU (dj := 32) rfl rfl rfl rfl rfl ?_
    refine L.guardU (dj := 32) rfl rfl rfl rfl rfl ?_
    refine L.guardU (dj := 32) rfl rfl rfl rfl rfl ?_
    refine L.guardF (dj := 29) (c := true) rfl rfl rfl rfl rfl (by decide) ?_
    refine L.pickT rfl rfl rfl ?_
    refine L.move rfl rfl ?_
    refine L.guardF (dj := 38) (c := true) rfl rfl rfl rfl rfl (by decide) ?_
    refine L.guardF (dj := 38) (c := true) rfl rfl rfl rfl rfl (by decide) ?_
    refine L.guardF (dj := 38) (c := true) rfl rfl rfl rfl rfl (by decide) ?_
    refine L.guardU (dj := 41) rfl rfl rfl rfl rfl ?_
    refine L.guardU (dj := 41) rfl rfl rfl rfl rfl ?_
    refine L.guardF (dj := 38) (c := true) rfl rfl rfl rfl rfl (by decide) ?_
    refine L.guardF (dj := 38) (c := true) rfl rfl rfl rfl rfl (by decide) ?_
    refine L.guardU (dj := 45) rfl rfl rfl rfl rfl ?_
    refine L.guardU (dj := 45) rfl rfl rfl rfl rfl ?_
    refine L.guardU (dj := 45) rfl rfl rfl rfl rfl ?_
    refine L.guardF (dj := 38) (c := true) rfl rfl rfl rfl rfl (by decide) ?_
    refine L.pickT rfl rfl rfl ?_
    refine L.nil ?_
    refine T.thenN ?_
    exact T.toJoin ⟨_, (by first | exact endB_t (by omega) | exact endB_f (by omega) | exact endB_d (by omega)), rfl, rfl, rfl⟩ (.cons (t := 50) rfl <| SubK.nil _) (.cons (t := 0) rfl <| .cons (t := 1) rfl <| .cons (t := 5) rfl <| .cons (t := 6) rfl <| .cons (t := 7) rfl <| .cons (t := 8) rfl <| SubK.nil _) qD qD qF
   ·try simp only [dq] at h1
    refine L.guardT (dj := 29) rfl rfl rfl ?_
    refine L.move rfl rfl ?_
    refine L.guardT (dj := 29) rfl rfl rfl ?_
    refine L.geI rfl rfl rfl ?_
    refine L.guardT (dj := 29) rfl rfl rfl ?_
    refine L.move rfl rfl ?_
    refine L.part (t := 32) rfl (fun h2 => ?_) (fun h2 => ?_)
    ·try simp only [dq] at h2
     refine L.guardT (dj := 32) rfl rfl rfl ?_
     refine L.move rfl rfl ?_
     refine L.guardT (dj := 32) rfl rfl rfl ?_
     refine L.move rfl rfl ?_
     refine L.guardT (dj := 32) rfl rfl rfl ?_
     refine L.callF rfl (evs.cons rfl <| evs.cons rfl <| evs.nil) qD qS (rzero_spec (x := rollL tt (s.take (j + 1))) (z := mskP 5)) (by rintro u D1 M1 ⟨rfl, rfl, rfl⟩; exact ⟨rfl, _, qA, qF⟩) ?_
     refine L.guardT (dj := 29) rfl rfl rfl ?_
     refine L.pickT rfl rfl rfl ?_
     refine L.pickF rfl rfl rfl ?_
     refine L.move rfl rfl ?_
     refine L.part (t := 38) rfl (fun h3 => ?_) (fun h3 => ?_)
     ·try simp only [dq] at h3
      refine L.guardF (dj := 38) (c := true) rfl rfl rfl rfl rfl (by decide) ?_
      refine L.guardF (dj := 38) (c := true) rfl rfl rfl rfl rfl (by decide) ?_
      refine L.guardF (dj := 38) (c := true) rfl rfl rfl rfl rfl (by decide) ?_
      refine L.guardU (dj := 41) rfl rfl rfl rfl rfl ?_
      refine L.guardU (dj := 41) rfl rfl rfl rfl rfl ?_
      refine L.guardF (dj := 38) (c := true) rfl rfl rfl rfl rfl (by decide) ?_
      refine L.guardF (dj := 38) (c := true) rfl rfl rfl rfl rfl (by decide) ?_
      refine L.guardU (dj := 45) rfl rfl rfl rfl rfl ?_
      refine L.guardU (dj := 45) rfl rfl rfl rfl rfl ?_
      refine L.guardU (dj := 45) rfl rfl rfl rfl rfl ?_
      refine L.guardF (dj := 38) (c := true) rfl rfl rfl rfl rfl (by decide) ?_
      refine L.pickT rfl rfl rfl ?_
      refine L.nil ?_
      refine T.thenN ?_
      exact T.toJoin ⟨_, (by first | exact endB_t (by omega) | exact endB_f (by omega) | exact endB_d (by omega)), rfl, rfl, rfl⟩ (.cons (t := 50) rfl <| SubK.nil _) (.cons (t := 0) rfl <| .cons (t := 1) rfl <| .cons (t := 5) rfl <| .cons (t := 6) rfl <| .cons (t := 7) rfl <| .cons (t := 8) rfl <| SubK.nil _) qD qD qF
     ·try simp only [dq] at h3
      refine L.guardT (dj := 38) rfl rfl rfl ?_
      refine L.move rfl rfl ?_
      refine L.guardT (dj := 38) rfl rfl rfl ?_
      refine L.geI rfl rfl rfl ?_
      refine L.guardT (dj := 38) rfl rfl rfl ?_
      refine L.move rfl rfl ?_
      refine L.part (t := 41) rfl (fun h4 => ?_) (fun h4 => ?_)
      ·try simp only [dq] at h4
       refine L.guardT (dj := 41) rfl rfl rfl ?_
       refine L.move rfl rfl ?_
       refine L.guardT (dj := 41) rfl rfl rfl ?_
       refine L.ltI rfl rfl rfl ?_
       refine L.guardT (dj := 38) rfl rfl rfl ?_
       refine L.pickT rfl rfl rfl ?_
       refine L.guardT (dj := 38) rfl rfl rfl ?_
       refine L.move rfl rfl ?_
       refine L.part (t := 45) rfl (fun h5 => ?_) (fun h5 => ?_)
       ·try simp only [dq] at h5
        refine L.guardT (dj := 45) rfl rfl rfl ?_
        refine L.move rfl rfl ?_
        refine L.guardT (dj := 45) rfl rfl rfl ?_
        refine L.move rfl rfl ?_
        refine L.guardT (dj := 45) rfl rfl rfl ?_
        refine L.callF rfl (evs.cons rfl <| evs.cons rfl <| evs.nil) qD qS (rzero_spec (x := rollL tt (s.take (j + 1))) (z := mskP 8)) (by rintro u D1 M1 ⟨rfl, rfl, rfl⟩; exact ⟨rfl, _, qA, qF⟩) ?_
        refine L.guardT (dj := 38) rfl rfl rfl ?_
        refine L.pickT rfl rfl rfl ?_
        refine L.pickF rfl rfl rfl ?_
        refine L.nil ?_
        refine T.thenN ?_
        exact T.toJoin ⟨_, (by first | exact endB_t (by omega) | exact endB_f (by omega) | exact endB_d (by omega)), rfl, rfl, rfl⟩ (.cons (t := 50) rfl <| SubK.nil _) (.cons (t := 0) rfl <| .cons (t := 1) rfl <| .cons (t := 5) rfl <| .cons (t := 6) rfl <| .cons (t := 7) rfl <| .cons (t := 8) rfl <| SubK.nil _) qD qD qF
       ·try simp only [dq] at h5
        refine L.guardF (dj := 45) (c := false) rfl rfl rfl rfl rfl (by decide) ?_
        refine L.guardF (dj := 45) (c := false) rfl rfl rfl rfl rfl (by decide) ?_
        refine L.guardF (dj := 45) (c := false) rfl rfl rfl rfl rfl (by decide) ?_
        refine L.guardT (dj := 38) rfl rfl rfl ?_
        refine L.pickF rfl rfl rfl ?_
        refine L.pickF rfl rfl rfl ?_
        refine L.nil ?_
        refine T.thenN ?_
        exact T.toJoin ⟨_, (by first | exact endB_t (by omega) | exact endB_f (by omega) | exact endB_d (by omega)), rfl, rfl, rfl⟩ (.cons (t := 50) rfl <| SubK.nil _) (.cons (t := 0) rfl <| .cons (t := 1) rfl <| .cons (t := 5) rfl <| .cons (t := 6) rfl <| .cons (t := 7) rfl <| .cons (t := 8) rfl <| SubK.nil _) qD qD qF
      ·try simp only [dq] at h4
       refine L.guardF (dj := 41) (c := false) rfl rfl rfl rfl rfl (by decide) ?_
       refine L.guardF (dj := 41) (c := false) rfl rfl rfl rfl rfl (by decide) ?_
       refine L.guardT (dj := 38) rfl rfl rfl ?_
       refine L.pickF rfl rfl rfl ?_
       refine L.guardT (dj := 38) rfl rfl rfl ?_
       refine L.move rfl rfl ?_
       refine L.guardF (dj := 45) (c := false) rfl rfl rfl rfl rfl (by decide) ?_
       refine L.guardF (dj := 45) (c := false) rfl rfl rfl rfl rfl (by decide) ?_
       refine L.guardF (dj := 45) (c := false) rfl rfl rfl rfl rfl (by decide) ?_
       refine L.guardT (dj := 38) rfl rfl rfl ?_
       refine L.pickF rfl rfl rfl ?_
       refine L.pickF rfl rfl rfl ?_
       refine L.nil ?_
       refine T.thenN ?_
       exact T.toJoin ⟨_, (by first | exact endB_t (by omega) | exact endB_f (by omega) | exact endB_d (by omega)), rfl, rfl, rfl⟩ (.cons (t := 50) rfl <| SubK.nil _) (.cons (t := 0) rfl <| .cons (t := 1) rfl <| .cons (t := 5) rfl <| .cons (t := 6) rfl <| .cons (t := 7) rfl <| .cons (t := 8) rfl <| SubK.nil _) qD qD qF
    ·try simp only [dq] at h2
     refine L.guardF (dj := 32) (c := false) rfl rfl rfl rfl rfl (by decide) ?_
     refine L.guardF (dj := 32) (c := false) rfl rfl rfl rfl rfl (by decide) ?_
     refine L.guardF (dj := 32) (c := false) rfl rfl rfl rfl rfl (by decide) ?_
     refine L.guardT (dj := 29) rfl rfl rfl ?_
     refine L.pickF rfl rfl rfl ?_
     refine L.pickF rfl rfl rfl ?_
     refine L.move rfl rfl ?_
     refine L.guardT (dj := 38) rfl rfl rfl ?_
     refine L.move rfl rfl ?_
     refine L.guardT (dj := 38) rfl rfl rfl ?_
     refine L.geI rfl rfl rfl ?_
     refine L.guardT (dj := 38) rfl rfl rfl ?_
     refine L.move rfl rfl ?_
     refine L.part (t := 41) rfl (fun h6 => ?_) (fun h6 => ?_)
     ·try simp only [dq] at h6
      refine L.guardT (dj := 41) rfl rfl rfl ?_
      refine L.move rfl rfl ?_
      refine L.guardT (dj := 41) rfl rfl rfl ?_
      refine L.ltI rfl rfl rfl ?_
      refine L.guardT (dj := 38) rfl rfl rfl ?_
      refine L.pickT rfl rfl rfl ?_
      refine L.guardT (dj := 38) rfl rfl rfl ?_
      refine L.move rfl rfl ?_
      refine L.part (t := 45) rfl (fun h7 => ?_) (fun h7 => ?_)
      ·try simp only [dq] at h7
       refine L.guardT (dj := 45) rfl rfl rfl ?_
       refine L.move rfl rfl ?_
       refine L.guardT (dj := 45) rfl rfl rfl ?_
       refine L.move rfl rfl ?_
       refine L.guardT (dj := 45) rfl rfl rfl ?_
       refine L.callF rfl (evs.cons rfl <| evs.cons rfl <| evs.nil) qD qS (rzero_spec (x := rollL tt (s.take (j + 1))) (z := mskP 8)) (by rintro u D1 M1 ⟨rfl, rfl, rfl⟩; exact ⟨rfl, _, qA, qF⟩) ?_
       refine L.guardT (dj := 38) rfl rfl rfl ?_
       refine L.pickT rfl rfl rfl ?_
       refine L.pickF rfl rfl rfl ?_
       refine L.nil ?_
       refine T.thenN ?_
       exact T.toJoin ⟨_, (by first | exact endB_t (by omega) | exact endB_f (by omega) | exact endB_d (by omega)), rfl, rfl, rfl⟩ (.cons (t := 50) rfl <| SubK.nil _) (.cons (t := 0) rfl <| .cons (t := 1) rfl <| .cons (t := 5) rfl <| .cons (t := 6) rfl <| .cons (t := 7) rfl <| .cons (t := 8) rfl <| SubK.nil _) qD qD qF
      ·try simp only [dq] at h7
       refine L.guardF (dj := 45) (c := false) rfl rfl rfl rfl rfl (by decide) ?_
       refine L.guardF (dj := 45) (c := false) rfl rfl rfl rfl rfl (by decide) ?_
       refine L.guardF (dj := 45) (c := false) rfl rfl rfl rfl rfl (by decide) ?_
       refine L.guardT (dj := 38) rfl rfl rfl ?_
       refine L.pickF rfl rfl rfl ?_
       refine L.pickF rfl rfl rfl ?_
       refine L.nil ?_
       refine T.thenN ?_
       exact T.toJoin ⟨_, (by first | exact endB_t (by omega) | exact endB_f (by omega) | exact endB_d (by omega)), rfl, rfl, rfl⟩ (.cons (t := 50) rfl <| SubK.nil _) (.cons (t := 0) rfl <| .cons (t := 1) rfl <| .cons (t := 5) rfl <| .cons (t := 6) rfl <| .cons (t := 7) rfl <| .cons (t := 8) rfl <| SubK.nil _) qD qD qF
     ·try simp only [dq] at h6
      refine L.guardF (dj := 41) (c := false) rfl rfl rfl rfl rfl (by decide) ?_
      refine L.guardF (dj := 41) (c := false) rfl rfl rfl rfl rfl (by decide) ?_
      refine L.guardT (dj := 38) rfl rfl rfl ?_
      refine L.pickF rfl rfl rfl ?_
      refine L.guardT (dj := 38) rfl rfl rfl ?_
      refine L.move rfl rfl ?_
      refine L.guardF (dj := 45) (c := false) rfl rfl rfl rfl rfl (by decide) ?_
      refine L.guardF (dj := 45) (c := false) rfl rfl rfl rfl rfl (by decide) ?_
      refine L.guardF (dj := 45) (c := false) rfl rfl rfl rfl rfl (by decide) ?_
      refine L.guardT (dj := 38) rfl rfl rfl ?_
      refine L.pickF rfl rfl rfl ?_
      refine L.pickF rfl rfl rfl ?_
      refine L.nil ?_
      refine T.thenN ?_
      exact T.toJoin ⟨_, (by first | exact endB_t (by omega) | exact endB_f (by omega) | exact endB_d (by omega)), rfl, rfl, rfl⟩ (.cons (t := 50) rfl <| SubK.nil _) (.cons (t := 0) rfl <| .cons (t := 1) rfl <| .cons (t := 5) rfl <| .cons (t := 6) rfl <| .cons (t := 7) rfl <| .cons (t := 8) rfl <| SubK.nil _) qD qD qF
  rintro _ _ _ ⟨w, hw, rfl, rfl, rfl⟩
  refine T.norm3 qA qA qA ?_
  refine T.thenN ?_
  refine T.cond rfl (fun h50 => ?_) (fun h50 => ?_)
  ·try simp only [dq] at h50
   refine T.seq (T.region ?_)
   refine L.move rfl rfl ?_
   refine L.assign rfl rfl ?_
   refine L.nil ?_
   refine T.thenN (T.ret (T.blkR ?_))
   refine T.thenR ?_
   refine T.thenR ?_
   refine T.blkR ?_
   refine T.thenR ?_
   exact T.ret1 rfl rfl ⟨congrArg (fun z : Nat => Value.int .i64 (z : Int)) (hI.hit (by omega) (by rw [← hw]; exact h50)).symm, rfl, rfl⟩ qD qF
  ·try simp only [dq] at h50
   refine T.skip (T.blkN (T.thenN (T.region ?_)))
   refine L.move rfl rfl ?_
   refine L.addN rfl rfl rfl (by omega) ?_
   refine L.assign rfl rfl ?_
   refine L.nil ?_
   refine T.thenN ?_
   exact T.back ⟨j + 1, (hI.next (by omega) (by rw [← hw]; exact h50)), rfl, rfl, rfl, rfl⟩ qI (.cons (t := 8) rfl <| .cons (t := 7) rfl <| SubK.nil _) (.cons (t := 0) rfl <| .cons (t := 1) rfl <| .cons (t := 5) rfl <| .cons (t := 6) rfl <| SubK.nil _) qD qD qF
 ·try simp only [dq] at h14
  obtain rfl : j = s.length := by omega
  have hfin := hI.fin
  refine T.exit (T.thenX (T.thenX (T.blkX (T.thenN (T.seq (T.region ?_))))))
  refine L.move rfl rfl ?_
  refine L.lenStr rfl Tryz.underlying9 rfl ?_
  refine L.assign rfl rfl ?_
  refine L.nil ?_
  refine T.thenN (T.ret ?_)
  exact T.ret1 rfl rfl ⟨by rw [hfin], rfl, rfl⟩ qD qF
set_option maxHeartbeats 400000 in
theorem rcut_spec {a : Option Addr} {c : Nat} {tt : List Int} {s : List UInt8} (hT : tt.length = 256) (hs : s.length ≤ 1000000) : Spec Tryz.prog 43 [.slice a 256 c, S s] [rsl 1 a 256 c (tt.map ur)] [] (fun v D' M' => ∃ (a' : Option Addr) (n' c' : Nat), v = .slice a' n' c' ∧ ((chnF tt s).length = n') ∧ D' = [] ∧ M' = [own 1 9 a' n' c' ((chnF tt s).map ys)]) := by
 refine Spec.intro (n := 40) Tryz.func43 rfl rfl (by decide) (Nat.le_of_ble_eq_true rfl) rfl (fun _ => qA) (fun _ => qA) ?_
 intro σ D M
 refine T.seq (T.region ?_)
 refine L.assign rfl rfl ?_
 refine L.nil ?_
 refine T.thenN (T.seq (T.region ?_))
 refine L.buildSlice rfl bs25 (by decide) (BP.doneE (out := []) rfl) (fun b9 => ?_)
 refine L.toOwn (len := 0) qP (rows := ([] : List (List UInt8)).map ys) (sz := 1) (by rfl) rfl (by simp) ?_
 refine L.assign rfl rfl ?_
 refine L.nil ?_
 refine T.thenN (T.seq (T.region ?_))
 refine L.assign rfl rfl ?_
 refine L.nil ?_
 refine T.thenN (T.seq (T.seq (T.region ?_)))
 refine L.assign rfl rfl ?_
 refine L.nil ?_
 refine T.thenN (T.block ?_)
 refine T.loop (fun K' D' M' μ => ∃ (i at_ n5 c5 : Nat) (a5 : Option Addr) (u : List (List UInt8)), ((i ≤ at_ ∧ at_ ≤ s.length) ∧ u ++ chnF tt (s.drop at_) = chnF tt s ∧ u.length = n5 ∧ n5 ≤ at_) ∧ K' = [(7, .int .i64 (i : Int)), (6, .int .i64 (at_ : Int)), (5, .slice a5 n5 c5)] ∧ D' = [] ∧ M' = [own 1 9 a5 n5 c5 ((u).map ys)] ∧ μ = s.length - at_) (.cons (t := 0) rfl <| .cons (t := 1) rfl <| SubK.nil _) (⟨0, 0, 0, 0, _, [], ⟨⟨Nat.zero_le _, Nat.zero_le _⟩, by rw [List.drop_zero, List.nil_append], rfl, Nat.zero_le _⟩, rfl, rfl, rfl, rfl⟩) (.cons (t := 7) rfl <| .cons (t := 6) rfl <| .cons (t := 5) rfl <| SubK.nil _) qD qS ?_
 rintro K1 D1 M1 m1 ⟨i, at_, n5, c5, a5, u, ⟨hi, hI, hun, hna⟩, rfl, rfl, rfl, rfl⟩
 refine T.norm3 qA qA qA ?_
 refine T.seq (T.seq ?_)
 refine T.cutC (fun K' D' M' => ∃ (w : Bool), (w = true ↔ (i ≤ s.length ∧ at_ < s.length)) ∧ K' = [(19, .bool w)] ∧ D' = [] ∧ M' = []) (M0 := []) (.cons (t := 0) rfl <| .cons (t := 1) rfl <| .cons (t := 5) rfl <| .cons (t := 6) rfl <| .cons (t := 7) rfl <| SubK.nil _) qS ?_ ?_
 ·skip
  refine T.region ?_
  refine L.move rfl rfl ?_
  refine L.move rfl rfl ?_
  refine L.lenStr rfl Tryz.underlying9 rfl ?_
  refine L.leI rfl rfl rfl ?_
  refine L.move rfl rfl ?_
  refine L.part (t := 14) rfl (fun h1 => ?_) (fun h1 => ?_)
  ·try simp only [dq] at h1
   refine L.guardT (dj := 14) rfl rfl rfl ?_
   refine L.move rfl rfl ?_
   refine L.guardT (dj := 14) rfl rfl rfl ?_
   refine L.move rfl rfl ?_
   refine L.guardT (dj := 14) rfl rfl rfl ?_
   refine L.lenStr rfl Tryz.underlying9 rfl ?_
   refine L.guardT (dj := 14) rfl rfl rfl ?_
   refine L.ltI rfl rfl rfl ?_
   refine L.pickT rfl rfl rfl ?_
   refine L.nil ?_
   refine T.thenN ?_
   exact T.toJoin ⟨_, (by simp_all <;> omega), rfl, rfl, rfl⟩ (.cons (t := 19) rfl <| SubK.nil _) (.cons (t := 0) rfl <| .cons (t := 1) rfl <| .cons (t := 5) rfl <| .cons (t := 6) rfl <| .cons (t := 7) rfl <| SubK.nil _) qD qD qF
  ·try simp only [dq] at h1
   refine L.guardF (dj := 14) (c := false) rfl rfl rfl rfl rfl (by decide) ?_
   refine L.guardF (dj := 14) (c := false) rfl rfl rfl rfl rfl (by decide) ?_
   refine L.guardF (dj := 14) (c := false) rfl rfl rfl rfl rfl (by decide) ?_
   refine L.guardF (dj := 14) (c := false) rfl rfl rfl rfl rfl (by decide) ?_
   refine L.pickF rfl rfl rfl ?_
   refine L.nil ?_
   refine T.thenN ?_
   exact T.toJoin ⟨_, (by simp_all <;> omega), rfl, rfl, rfl⟩ (.cons (t := 19) rfl <| SubK.nil _) (.cons (t := 0) rfl <| .cons (t := 1) rfl <| .cons (t := 5) rfl <| .cons (t := 6) rfl <| .cons (t := 7) rfl <| SubK.nil _) qD qD qF
 rintro _ _ _ ⟨w, hw, rfl, rfl, rfl⟩
 refine T.norm3 qA qA qA ?_
 refine T.thenN ?_
 refine T.cond rfl (fun h19 => ?_) (fun h19 => ?_)
 ·try simp only [dq] at h19
  have hwt := hw.1 h19
  have hne : s.drop at_ ≠ [] := fun q => by have := congrArg List.length q; rw [List.length_drop] at this; simp only [List.length_nil] at this; omega
  have hst := chn_step (T := tt) hne
  obtain ⟨he1, he2⟩ := endR_in (T := tt) hne
  rw [List.length_drop] at he2
  obtain ⟨e, hee⟩ : ∃ z, z = endR tt (s.drop at_) := ⟨_, rfl⟩
  rw [← hee] at hst he1 he2
  refine T.skip (T.thenN (T.seq (T.block (T.seq (T.region ?_)))))
  refine L.move rfl rfl ?_
  refine L.move rfl rfl ?_
  refine L.move rfl rfl ?_
  refine L.sliceS (a := at_) (b := _) rfl Tryz.underlying9 rfl ⟨_, (by first | rfl | (congr 2; omega))⟩ rfl qI qI ?_
  refine L.known (t := 25) (u := S (s.drop at_)) rfl (congrArg S (by rw [List.take_of_length_le (Nat.le_refl _)])) ?_
  refine L.callF rfl (evs.cons rfl <| evs.cons rfl <| evs.nil) qD qS (rend_spec (tt := tt) (s := s.drop at_) hT (by rw [List.length_drop]; omega)) (by rintro u D1 M1 ⟨rfl, rfl, rfl⟩; exact ⟨rfl, _, qA, qF⟩) ?_
  rw [← hee]
  refine L.assign rfl rfl ?_
  refine L.nil ?_
  refine T.thenN (T.seq (T.region ?_))
  refine L.move rfl rfl ?_
  refine L.move rfl rfl ?_
  refine L.move rfl rfl ?_
  refine L.move rfl rfl ?_
  refine L.move rfl rfl ?_
  refine L.addN rfl rfl rfl (by omega) ?_
  refine L.sliceS (a := at_) (b := at_ + e) rfl Tryz.underlying9 rfl ⟨_, (by first | rfl | (congr 2; omega))⟩ ⟨_, (by first | rfl | (congr 2; omega))⟩ qI qI ?_
  refine L.buildSlice rfl bs25 (by decide) (BP.one rfl rfl rfl <| BP.doneE (out := []) rfl) (fun b34 => ?_)
  refine L.append1 rfl Tryz.underlying25 el9 rfl rfl qP qM rfl qO1 qI qI (fun a35 c35 => ?_)
  refine L.assign rfl rfl ?_
  refine L.nil ?_
  refine T.thenN (T.region ?_)
  refine L.move rfl rfl ?_
  refine L.move rfl rfl ?_
  refine L.addN rfl rfl rfl (by omega) ?_
  refine L.assign rfl rfl ?_
  refine L.nil ?_
  refine T.blkN (T.thenN (T.region ?_))
  refine L.move rfl rfl ?_
  refine L.addN rfl rfl rfl (by omega) ?_
  refine L.assign rfl rfl ?_
  refine L.nil ?_
  refine T.thenN ?_
  refine T.ownEq _ ((u ++ [(s.drop at_).take e]).map ys) qP (by rw [List.map_append, List.drop_take, Nat.add_sub_cancel_left]; rfl) ?_
  exact T.back ⟨i + 1, at_ + e, n5 + 1, _, _, u ++ [(s.drop at_).take e], ⟨by omega, by rw [← hI, hst, List.drop_drop]; simp, by rw [List.length_append, hun]; rfl, by omega⟩, rfl, rfl, rfl, rfl⟩ qI (.cons (t := 7) rfl <| .cons (t := 6) rfl <| .cons (t := 5) rfl <| SubK.nil _) (.cons (t := 0) rfl <| .cons (t := 1) rfl <| SubK.nil _) qD qD qF
 ·try simp only [dq] at h19
  have hwf : ¬ (i ≤ s.length ∧ at_ < s.length) := fun e => by have := hw.2 e; rw [h19] at this; cases this
  obtain rfl : at_ = s.length := by omega
  rw [List.drop_length, chn_nil, List.append_nil] at hI
  refine T.exit (T.thenX (T.thenX (T.blkX (T.thenN (T.seq (T.region ?_))))))
  refine L.move rfl rfl ?_
  refine L.assign rfl rfl ?_
  refine L.nil ?_
  refine T.thenN (T.ret ?_)
  refine T.ownEq _ ((chnF tt s).map ys) qP (by rw [hI]) ?_
  exact T.ret1 rfl rfl ⟨_, _, _, rfl, by rw [← hI]; exact hun, rfl, rfl⟩ qD qF
end Cv
set_option maxRecDepth 10000
namespace Cv
open Go Go.Proofs
theorem fo201_0 : Fo Tryz.prog 201 0 0 := fun a w => by kernel_rfl
theorem fo201_1 : Fo Tryz.prog 201 1 1 := fun a w => by kernel_rfl
theorem sc153 : Sc Tryz.prog 153 := fun w => ⟨by kernel_rfl, by kernel_rfl⟩
theorem sz41 : Sz Tryz.prog 41 2 := fun w => by kernel_rfl
theorem ze41 : Ze Tryz.prog 41 [S [], Value.int .i64 0] := ⟨_, rfl, zv41⟩
theorem bs153 : Bs Tryz.prog 153 41 2 [S [], Value.int .i64 0] := bs_of Tryz.underlying153 (fun w => by kernel_rfl) zv41 rfl rfl (by decide)
theorem zv58 : ∀ w, (zeroValue 58).run Tryz.prog w = .ok (Value.agg #[Value.int .i64 0, S [], S []]) w := fun w => by kernel_rfl
theorem bs44 : Bs Tryz.prog 44 58 3 [Value.int .i64 0, S [], S []] := bs_of Tryz.underlying44 (fun w => by kernel_rfl) zv58 rfl rfl (by decide)
theorem zv201 : ∀ w, (zeroValue 201).run Tryz.prog w = .ok (Value.agg #[Value.int .i64 0, Value.slice none 0 0]) w := fun w => by kernel_rfl
theorem bu201 : Bu Tryz.prog 201 [Value.int .i64 0, Value.slice none 0 0] (fun (i : Nat) => ([(0, 1), (1, 1)] : List (Nat × Nat))[i]?) := bu_of Tryz.underlying201 zv201 rfl (fun w => by kernel_rfl)
theorem ze201 : Ze Tryz.prog 201 [Value.int .i64 0, Value.slice none 0 0] := ⟨_, rfl, zv201⟩
theorem ag201 : Ag Tryz.prog 201 2 := fun w => ⟨by kernel_rfl, by kernel_rfl⟩
theorem el41 : El Tryz.prog 41 2 24 := ⟨_, _, rfl, rfl, by kernel_rfl, by kernel_rfl, by kernel_rfl⟩
theorem bu58 : Bu Tryz.prog 58 [Value.int .i64 0, S [], S []] (fun (i : Nat) => ([(0, 1), (1, 1), (2, 1)] : List (Nat × Nat))[i]?) := bu_of Tryz.underlying58 zv58 rfl (fun w => by kernel_rfl)
theorem el58 : El Tryz.prog 58 3 40 := ⟨_, _, rfl, rfl, by kernel_rfl, by kernel_rfl, by kernel_rfl⟩
set_option maxHeartbeats 400000 in
theorem rntext_spec {k n c : Nat} {a : Option Addr} {ps : List Pt} (hk : k ≤ 1000000) (hn : n ≤ 1000000) (hp : ∀ p ∈ ps, 0 ≤ p.2 ∧ p.2 ≤ 4611686018427387904) : Spec Tryz.prog 120 [.agg #[.int .i64 (k : Int), .slice a n c]] [rsl 2 a n c (ps.map ptR)] [] (fun v D' M' => v = S (nodeT k ps) ∧ D' = [] ∧ M' = []) := by
 refine Spec.intro (n := 34) Tryz.func120 rfl rfl (by decide) (Nat.le_of_ble_eq_true rfl) rfl (fun _ => qA) (fun _ => qA) ?_
 intro σ D M
 refine T.rslLen2 (rows := ps.map ptR) qM (fun hpl hpc => ?_)
 rw [List.length_map] at hpl
 have hnl := nodeP_len (k := k) (ps := ps) hk (by omega) (fun p q => by have := hp p q; omega)
 have hk9 := numB_len (n := k) (by omega)
 have hn9 := numB_len (n := n) (by omega)
 refine T.seq (T.region ?_)
 refine L.box rfl rfl rfl (fun b1 => ?_)
 refine L.assign rfl rfl ?_
 refine L.nil ?_
 refine T.freeze (A := cl b1 201 [.int .i64 (k : Int), .slice a n c]) qP ?_
 refine T.thenN (T.seq ?_)
 refine T.regionQ qk qk ?_
 first | refine L.field0 rfl fo201_0 rfl ?_ | refine L.field rfl fo201_0 rfl ?_
 refine L.load rfl sc3 rfl qC ?_
 refine L.convU rfl Tryz.underlying3 Tryz.underlying117 rfl qI ?_
 refine L.callF rfl (evs.cons rfl <| evs.nil) qD qS (rnum_spec (n := k) (by omega)) (by rintro u D1 M1 ⟨rfl, rfl, rfl⟩; exact ⟨rfl, _, qA, qF⟩) ?_
 first | refine L.field0 rfl fo201_1 rfl ?_ | refine L.field rfl fo201_1 rfl ?_
 refine L.load rfl sc153 rfl qC ?_
 refine L.lenSl rfl Tryz.underlying153 rfl ?_
 refine L.convU rfl Tryz.underlying3 Tryz.underlying117 rfl qI ?_
 refine L.callF rfl (evs.cons rfl <| evs.nil) qD qS (rnum_spec (n := n) (by omega)) (by rintro u D1 M1 ⟨rfl, rfl, rfl⟩; exact ⟨rfl, _, qA, qF⟩) ?_
 refine L.addS rfl rfl rfl qI ?_
 refine L.known (t := 15) (u := S (nodeP k ps 0)) rfl (congrArg S (by simp [nodeP, hpl])) ?_
 refine L.assign rfl rfl ?_
 refine L.nilQ ?_
 refine T.thenN (T.seq (T.seq (T.region ?_)))
 first | refine L.field0 rfl fo201_1 rfl ?_ | refine L.field rfl fo201_1 rfl ?_
 refine L.load rfl sc153 rfl qC ?_
 refine L.lenSl rfl Tryz.underlying153 rfl ?_
 refine L.move rfl rfl ?_
 refine L.nil ?_
 refine T.thenN (T.block ?_)
 refine T.loop (fun K' D' M' μ => ∃ (i : Nat), (i ≤ n) ∧ K' = [(19, .int .i64 (i : Int)), (3, S (nodeP k ps i))] ∧ D' = [] ∧ M' = [] ∧ μ = n - i) (.cons (t := 17) rfl <| .cons (t := 18) rfl <| SubK.nil _) (⟨0, Nat.zero_le _, rfl, rfl, rfl, rfl⟩) (.cons (t := 19) rfl <| .cons (t := 3) rfl <| SubK.nil _) qD qS ?_
 rintro K1 D1 M1 m1 ⟨i, hi, rfl, rfl, rfl, rfl⟩
 refine T.norm3 qA qA qA ?_
 refine T.seq (T.region ?_)
 refine L.ltI rfl rfl rfl ?_
 refine L.nil ?_
 refine T.thenN (T.seq ?_)
 refine T.cond rfl (fun h20 => ?_) (fun h20 => ?_)
 ·try simp only [dq] at h20
  refine T.skip (T.thenN (T.seq (T.block (T.seq ?_))))
  have hgi : ps[i]? = some (gd ps i) := gd_get (by omega)
  obtain ⟨p, hp_⟩ : ∃ x, x = gd ps i := ⟨_, rfl⟩
  rw [← hp_] at hgi
  have hgr : (ps.map ptR)[i]? = some (ptR p) := map_get hgi
  have hp32 := p.1.2
  have hpm := List.mem_of_getElem? hgi
  have hpb := hp p hpm
  refine T.region ?_
  refine L.idx (i := i) rfl Tryz.underlying153 sz41 rfl rfl qM (by first | rfl | omega | (simp; done)) qG (fun b21 o21 => ?_)
  refine L.loadA rfl ag41 rfl (CellsN.ofD qM (ptR_len _)) ?_
  refine L.alloc rfl ze41 (fun b5 => ?_)
  refine L.storeA ag41 rfl rfl qL qO qU qW ?_
  refine L.nil ?_
  refine T.freeze (A := cl b5 41 (ptR p)) qP ?_
  have hni := hnl i
  have hp9 := numB_len (n := p.2.toNat) (by omega)
  have hpt : p.2 = ((p.2.toNat : Nat) : Int) := by omega
  refine T.thenN ?_
  refine T.regionQ qk qk ?_
  refine L.move rfl rfl ?_
  first | refine L.field0 rfl fo41_0 rfl ?_ | refine L.field rfl fo41_0 rfl ?_
  refine L.load rfl sc9 rfl qC ?_
  first | refine L.field0 rfl fo41_1 rfl ?_ | refine L.field rfl fo41_1 rfl ?_
  refine L.load rfl sc3 rfl qC ?_
  refine L.convU rfl Tryz.underlying3 Tryz.underlying117 rfl qI ?_
  refine L.known (t := 28) (u := .int .u64 ((p.2.toNat : Nat) : Int)) rfl (congrArg (Value.int .u64) hpt) ?_
  refine L.callF rfl (evs.cons rfl <| evs.nil) qD qS (rnum_spec (n := p.2.toNat) (by omega)) (by rintro u D1 M1 ⟨rfl, rfl, rfl⟩; exact ⟨rfl, _, qA, qF⟩) ?_
  refine L.addS rfl rfl rfl qI ?_
  refine L.addS rfl rfl rfl qI ?_
  refine L.known (t := 31) (u := S (nodeP k ps (i + 1))) rfl (congrArg S (by rw [nodeP_s hgi]; rfl)) ?_
  refine L.assign rfl rfl ?_
  refine L.nilQ ?_
  refine T.blkN (T.thenN (T.region ?_))
  refine L.addN rfl rfl rfl (by omega) ?_
  refine L.move rfl rfl ?_
  refine L.nil ?_
  refine T.thenN ?_
  exact T.back ⟨i + 1, (by omega), rfl, rfl, rfl, rfl⟩ qI (.cons (t := 19) rfl <| .cons (t := 3) rfl <| SubK.nil _) (.cons (t := 17) rfl <| .cons (t := 18) rfl <| SubK.nil _) qD qD qF
 ·try simp only [dq] at h20
  obtain rfl : i = n := by omega
  refine T.exit (T.thenX (T.thenX (T.blkX (T.thenN (T.seq (T.region ?_))))))
  refine L.move rfl rfl ?_
  refine L.assign rfl rfl ?_
  refine L.nil ?_
  refine T.thenN (T.ret ?_)
  exact T.ret1 rfl rfl ⟨by unfold nodeT; rw [hpl], rfl, rfl⟩ qD qF
set_option maxHeartbeats 400000 in
theorem rup_spec {k n c : Nat} {a : Option Addr} {ps : List Pt} (hk : k ≤ 1000000) (hn : n ≤ 1000000) (hp : ∀ p ∈ ps, 0 ≤ p.2 ∧ p.2 ≤ 1000000000) : Spec Tryz.prog 85 [.int .i64 (k : Int), .slice a n c] [rsl 2 a n c (ps.map ptR)] [] (fun v D' M' => ∃ (a1 a2 : Option Addr) (n1 c1 c2 : Nat), v = .tuple #[.slice a1 n1 c1, .slice a2 n1 c2] ∧ (gN n = n1) ∧ D' = [] ∧ M' = [own 2 41 a1 n1 c1 ((upP k ps).map ptR), own 3 58 a2 n1 c2 ((upO k ps).map obR)]) := by
 refine Spec.intro (n := 62) Tryz.func85 rfl rfl (by decide) (Nat.le_of_ble_eq_true rfl) rfl (fun _ => qA) (fun _ => qA) ?_
 intro σ D M
 refine T.rslLen2 (rows := ps.map ptR) qM (fun hpl hpc => ?_)
 rw [List.length_map] at hpl
 have hgn : gN n = (n + 7) / 8 := rfl
 refine T.seq (T.region ?_)
 refine L.assign rfl rfl ?_
 refine L.assign rfl rfl ?_
 refine L.nil ?_
 refine T.thenN (T.seq (T.region ?_))
 refine L.buildSlice rfl bs153 (by decide) (BP.doneE (out := []) rfl) (fun b14 => ?_)
 refine L.toOwn (len := 0) qP (rows := ((grI ps 0).map (upt k)).map ptR) (sz := 2) (by rfl) rfl (by simp [grI]) ?_
 refine L.assign rfl rfl ?_
 refine L.nil ?_
 refine T.thenN (T.seq (T.region ?_))
 refine L.buildSlice rfl bs44 (by decide) (BP.doneE (out := []) rfl) (fun b15 => ?_)
 refine L.toOwn (len := 0) qP (rows := ((grI ps 0).map (uob k)).map obR) (sz := 3) (by rfl) rfl (by simp [grI]) ?_
 refine L.assign rfl rfl ?_
 refine L.nil ?_
 refine T.thenN (T.seq (T.seq (T.region ?_)))
 refine L.assign rfl rfl ?_
 refine L.nil ?_
 refine T.thenN (T.block ?_)
 refine T.loop (fun K' D' M' μ => ∃ (i c6 c7 : Nat) (a6 a7 : Option Addr), (i ≤ gN n) ∧ K' = [(8, .int .i64 ((8 * i : Nat) : Int)), (6, .slice a6 i c6), (7, .slice a7 i c7)] ∧ D' = [] ∧ M' = [own 2 41 a6 i c6 (((grI ps i).map (upt k)).map ptR), own 3 58 a7 i c7 (((grI ps i).map (uob k)).map obR)] ∧ μ = gN n - i) (.cons (t := 0) rfl <| .cons (t := 1) rfl <| SubK.nil _) (⟨0, _, _, _, _, Nat.zero_le _, rfl, rfl, rfl, rfl⟩) (.cons (t := 8) rfl <| .cons (t := 6) rfl <| .cons (t := 7) rfl <| SubK.nil _) qD qS ?_
 rintro K1 D1 M1 m1 ⟨i, c6, c7, a6, a7, hi, rfl, rfl, rfl, rfl⟩
 refine T.norm3 qA qA qA ?_
 refine T.seq (T.seq (T.region ?_))
 refine L.move rfl rfl ?_
 refine L.move rfl rfl ?_
 refine L.lenSl rfl Tryz.underlying153 rfl ?_
 refine L.ltI rfl rfl rfl ?_
 refine L.nil ?_
 refine T.thenN ?_
 refine T.cond rfl (fun h19 => ?_) (fun h19 => ?_)
 ·try simp only [dq] at h19
  refine T.skip (T.thenN (T.seq (T.block (T.seq ?_))))
  have hgl := @grp_len ps i
  have hnl : (nodeT k (grp ps i)).length ≤ 18 + 41 * (grp ps i).length := nodeP_len hk (by omega) (fun p q => by have := hp p (grp_mem q); omega) _
  have hsz := sizeI_in (ps := (grp ps i)) (B := 1000000000) (fun p q => hp p (grp_mem q))
  refine T.derive (φ := rsl 2 a n c (ps.map ptR)) (ψ := rsl 2 (cutA a c (8 * i) 2) (min (8 * i + 8) n - 8 * i) (c - 8 * i) ((grp ps i).map ptR)) qM (fun z H => rsl_grpR i hpl (by omega) H) ?_
  refine T.region ?_
  refine L.move rfl rfl ?_
  refine L.move rfl rfl ?_
  refine L.move rfl rfl ?_
  refine L.move rfl rfl ?_
  refine L.addN rfl rfl rfl (by omega) ?_
  refine L.known (t := 26) (u := .int .i64 ((8 * i + 8 : Nat) : Int)) rfl (congrArg (Value.int .i64) (by omega)) ?_
  refine L.move rfl rfl ?_
  refine L.lenSl rfl Tryz.underlying153 rfl ?_
  refine L.minI rfl rfl rfl ?_
  refine L.known (t := 29) (u := .int .i64 ((min (8 * i + 8) n : Nat) : Int)) rfl (congrArg (Value.int .i64) (by omega)) ?_
  refine L.sliceSl rfl Tryz.underlying153 sz41 rfl (Bd.at (x := 8 * i) rfl (by first | rfl | omega | (simp; done))) (Bd.at (x := min (8 * i + 8) n) rfl (by first | rfl | omega | (simp; done))) qI qI ?_
  refine L.build rfl bu201 (BP.one rfl rfl rfl <| BP.one rfl rfl rfl <| BP.doneE (out := []) rfl) ?_
  refine L.alloc rfl ze201 (fun b9 => ?_)
  refine L.storeA ag201 rfl rfl qL qO qU qW ?_
  refine L.nil ?_
  refine T.freeze (A := cl b9 201 [.int .i64 (k : Int), .slice (cutA a c (8 * i) 2) (min (8 * i + 8) n - 8 * i) (c - 8 * i)]) qP ?_
  refine T.thenN (T.seq (T.region ?_))
  refine L.assign rfl rfl ?_
  refine L.nil ?_
  refine T.thenN (T.seq (T.seq (T.region ?_)))
  first | refine L.field0 rfl fo201_1 rfl ?_ | refine L.field rfl fo201_1 rfl ?_
  refine L.load rfl sc153 rfl qC ?_
  refine L.lenSl rfl Tryz.underlying153 rfl ?_
  refine L.move rfl rfl ?_
  refine L.nil ?_
  refine T.thenN (T.block ?_)
  refine T.loop (fun K' D' M' μ => ∃ (j : Nat), (j ≤ min (8 * i + 8) n - 8 * i) ∧ K' = [(35, .int .i64 (j : Int)), (10, .int .i64 (sizeI (grp ps i) j))] ∧ D' = [] ∧ M' = [] ∧ μ = min (8 * i + 8) n - 8 * i - j) (.cons (t := 0) rfl <| .cons (t := 1) rfl <| .cons (t := 6) rfl <| .cons (t := 7) rfl <| .cons (t := 8) rfl <| .cons (t := 9) rfl <| .cons (t := 33) rfl <| .cons (t := 34) rfl <| SubK.nil _) (⟨0, Nat.zero_le _, rfl, rfl, rfl, rfl⟩) (.cons (t := 35) rfl <| .cons (t := 10) rfl <| SubK.nil _) qD qS ?_
  rintro K1 D1 M1 m1 ⟨j, hj, rfl, rfl, rfl, rfl⟩
  refine T.norm3 qA qA qA ?_
  refine T.seq (T.region ?_)
  refine L.ltI rfl rfl rfl ?_
  refine L.nil ?_
  refine T.thenN (T.seq ?_)
  refine T.cond rfl (fun h36 => ?_) (fun h36 => ?_)
  ·try simp only [dq] at h36
   refine T.skip (T.thenN (T.seq (T.block (T.seq ?_))))
   have hgj : (grp ps i)[j]? = some (gd (grp ps i) j) := gd_get (by omega)
   obtain ⟨p, hp_⟩ : ∃ x, x = gd (grp ps i) j := ⟨_, rfl⟩
   rw [← hp_] at hgj
   have hgr : ((grp ps i).map ptR)[j]? = some (ptR p) := map_get hgj
   have hsj := hsz j (by omega)
   have hss := hsz (j + 1) (by omega)
   rw [sizeI_s hgj] at hss
   refine T.region ?_
   refine L.idx (i := j) rfl Tryz.underlying153 sz41 rfl rfl qM (by first | rfl | omega | (simp; done)) qG (fun b37 o37 => ?_)
   refine L.loadA rfl ag41 rfl (CellsN.ofD qM (ptR_len _)) ?_
   refine L.alloc rfl ze41 (fun b12 => ?_)
   refine L.storeA ag41 rfl rfl qL qO qU qW ?_
   refine L.nil ?_
   refine T.freeze (A := cl b12 41 (ptR p)) qP ?_
   refine T.thenN (T.region ?_)
   refine L.move rfl rfl ?_
   first | refine L.field0 rfl fo41_1 rfl ?_ | refine L.field rfl fo41_1 rfl ?_
   refine L.load rfl sc3 rfl qC ?_
   refine L.addN rfl rfl rfl (by omega) ?_
   refine L.known (t := 42) (u := .int .i64 (sizeI (grp ps i) (j + 1))) rfl (congrArg (Value.int .i64) (sizeI_s hgj).symm) ?_
   refine L.assign rfl rfl ?_
   refine L.nil ?_
   refine T.blkN (T.thenN (T.region ?_))
   refine L.addN rfl rfl rfl (by omega) ?_
   refine L.move rfl rfl ?_
   refine L.nil ?_
   refine T.thenN ?_
   exact T.back ⟨j + 1, (by omega), rfl, rfl, rfl, rfl⟩ qI (.cons (t := 35) rfl <| .cons (t := 10) rfl <| SubK.nil _) (.cons (t := 0) rfl <| .cons (t := 1) rfl <| .cons (t := 6) rfl <| .cons (t := 7) rfl <| .cons (t := 8) rfl <| .cons (t := 9) rfl <| .cons (t := 33) rfl <| .cons (t := 34) rfl <| SubK.nil _) qD qD qF
  ·try simp only [dq] at h36
   obtain hjn : j = (grp ps i).length := by omega
   rw [hjn]
   refine T.exit (T.thenX (T.thenX (T.blkX (T.thenN (T.seq (T.region ?_))))))
   refine L.loadA rfl ag201 rfl qN ?_
   refine L.callF rfl (evs.cons rfl <| evs.nil) qD qS (rntext_spec (k := k) (ps := (grp ps i)) hk (by omega) (fun p q => by have := hp p (grp_mem q); omega)) (by rintro u D1 M1 ⟨rfl, rfl, rfl⟩; exact ⟨rfl, _, qA, qF⟩) ?_
   refine L.callF rfl (evs.cons rfl <| evs.cons rfl <| evs.nil) qD qS (r2of_spec (kind := 2) (t := nodeT k (grp ps i)) (by omega)) (by rintro u D1 M1 ⟨rfl, rfl, rfl⟩; exact ⟨rfl, _, qA, qF⟩) ?_
   refine L.known (t := 46) (u := S (oI 2 (nodeT k (grp ps i))).1) rfl (by rw [oI_val]) ?_
   refine L.assign rfl rfl ?_
   refine L.nil ?_
   refine T.thenN (T.seq (T.region ?_))
   refine L.move rfl rfl ?_
   refine L.move rfl rfl ?_
   refine L.move rfl rfl ?_
   refine L.build rfl bu41 (BP.one rfl rfl rfl <| BP.one rfl rfl rfl <| BP.doneE (out := []) rfl) ?_
   refine L.known (t := 50) (u := .agg (ptR (upt k (grp ps i))).toArray) rfl (by rfl) ?_
   refine L.buildSlice rfl bs153 (by decide) (BP.agg rfl rfl (by first | with_reducible assumption | (simp; done) | (simp only [List.length_map]; with_reducible assumption) | (simp [*]; done) | rfl) (Nat.le_of_ble_eq_true rfl) qR <| BP.doneE (out := []) rfl) (fun b51 => ?_)
   refine L.append1 rfl Tryz.underlying153 el41 rfl rfl qP qM rfl qO1 qI qI (fun a52 c52 => ?_)
   refine L.assign rfl rfl ?_
   refine L.nil ?_
   refine T.thenN (T.region ?_)
   refine L.move rfl rfl ?_
   refine L.move rfl rfl ?_
   refine L.loadA rfl ag201 rfl qN ?_
   refine L.callF rfl (evs.cons rfl <| evs.nil) qD qS (rntext_spec (k := k) (ps := (grp ps i)) hk (by omega) (fun p q => by have := hp p (grp_mem q); omega)) (by rintro u D1 M1 ⟨rfl, rfl, rfl⟩; exact ⟨rfl, _, qA, qF⟩) ?_
   refine L.build rfl bu58 (BP.one rfl rfl rfl <| BP.one rfl rfl rfl <| BP.one rfl rfl rfl <| BP.doneE (out := []) rfl) ?_
   refine L.known (t := 57) (u := .agg (obR (uob k (grp ps i))).toArray) rfl (by rfl) ?_
   refine L.buildSlice rfl bs44 (by decide) (BP.agg rfl rfl (by first | with_reducible assumption | (simp; done) | (simp only [List.length_map]; with_reducible assumption) | (simp [*]; done) | rfl) (Nat.le_of_ble_eq_true rfl) qR <| BP.doneE (out := []) rfl) (fun b58 => ?_)
   refine L.append1 rfl Tryz.underlying44 el58 rfl rfl qP qM rfl qO1 qI qI (fun a59 c59 => ?_)
   refine L.assign rfl rfl ?_
   refine L.nil ?_
   refine T.blkN (T.thenN (T.region ?_))
   refine L.move rfl rfl ?_
   refine L.addN rfl rfl rfl (by omega) ?_
   refine L.known (t := 21) (u := .int .i64 ((8 * (i + 1) : Nat) : Int)) rfl (congrArg (Value.int .i64) (by omega)) ?_
   refine L.assign rfl rfl ?_
   refine L.nil ?_
   refine T.thenN ?_
   refine T.ownEq (sz := 3) _ (((grI ps (i + 1)).map (uob k)).map obR) qP (by rw [grI_s, List.map_append, List.map_append]; rfl) ?_
   refine T.ownEq (sz := 2) _ (((grI ps (i + 1)).map (upt k)).map ptR) qP (by rw [grI_s, List.map_append, List.map_append]; rfl) ?_
   exact T.back ⟨i + 1, _, _, _, _, (by omega), rfl, rfl, rfl, rfl⟩ qI (.cons (t := 8) rfl <| .cons (t := 6) rfl <| .cons (t := 7) rfl <| SubK.nil _) (.cons (t := 0) rfl <| .cons (t := 1) rfl <| SubK.nil _) qD qD qF
 ·try simp only [dq] at h19
  obtain rfl : gN n = i := by omega
  refine T.ownEq (sz := 2) _ ((upP k ps).map ptR) qP (by unfold upP grps; rw [hpl]) ?_
  refine T.ownEq (sz := 3) _ ((upO k ps).map obR) qP (by unfold upO grps; rw [hpl]) ?_
  refine T.exit (T.thenX (T.thenX (T.blkX (T.thenN (T.seq (T.region ?_))))))
  refine L.move rfl rfl ?_
  refine L.move rfl rfl ?_
  refine L.assign rfl rfl ?_
  refine L.assign rfl rfl ?_
  refine L.nil ?_
  refine T.thenN (T.ret ?_)
  exact T.ret2 rfl rfl rfl ⟨_, _, _, _, _, rfl, rfl, rfl, rfl⟩ qD qF
end Cv
