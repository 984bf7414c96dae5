/-
  The walks: names of a table, sorted.
-/
import Derived.Test.YtfkpgkgjamaoaaaPc21
import Derived.Test.YtfkpgkgjamaoaaaCvLd
import Derived.Test.YtfkpgkgjamaoaaaCvLg
import Derived.Test.YtfkpgkgjamaoaaaProg
import Derived.KernelRfl
set_option linter.unusedVariables false
set_option linter.unusedSimpArgs false
set_option linter.unusedSectionVars false
set_option maxRecDepth 10000
namespace Cv
open Go Go.Proofs
def cfI (x y : ID32) : Int := cmpB x.1 y.1
theorem cfI_swo : SWO cfI where
  asym x y h k := by
    unfold cfI at h k
    have := cmpB_neg x.1 y.1
    omega
  ntrans x y z h k l := by
    unfold cfI at h k l
    have n1 := cmpB_neg y.1 x.1
    have n2 := cmpB_neg z.1 y.1
    have n3 := cmpB_neg x.1 z.1
    rcases Int.lt_or_le (cmpB y.1 x.1) 0 with a | a
    · exact k (cmpB_trans a l)
    · have e1 : cmpB y.1 x.1 = 0 := by omega
      rw [cmpB_eq e1] at k
      exact k l
theorem cfI_irr (x : ID32) : ¬ cfI x x < 0 := by unfold cfI; rw [cmpB_self]; omega
theorem cfI_zero {x y : ID32} (h1 : ¬ cfI x y < 0) (h2 : ¬ cfI y x < 0) : x = y := by
  unfold cfI at h1 h2
  have := cmpB_neg x.1 y.1
  exact Subtype.ext (cmpB_eq (by omega))
/-! ## keys of a map, sorted -/
theorem gd_of' {α : Type} [Inhabited α] {l : List α} {i : Nat} {y : α} (h : l[i]? = some y) : gd l i = y := by unfold gd; rw [List.getD_eq_getElem?_getD, h]; rfl
theorem srt_asc {us : List ID32} (hn : us.Nodup) (h : SrtP cfI us 0 us.length) : us.Pairwise (fun x y => x.1 < y.1) := by
  rw [List.pairwise_iff_getElem]
  intro i j hi hj hij
  have e1 : gd us i = us[i] := gd_of' (List.getElem?_eq_getElem hi)
  have e2 : gd us j = us[j] := gd_of' (List.getElem?_eq_getElem hj)
  have h1 := h i j (Nat.zero_le _) hij hj
  unfold NL at h1
  rw [e1, e2] at h1
  refine cmpB_lt.1 (Decidable.byContradiction fun hc => ?_)
  have := cfI_zero hc h1
  exact absurd ((List.getElem_inj (h₀ := hi) (h₁ := hj) hn).1 this) (by omega)
structure KeysF (ks us : List ID32) : Prop where
  asc : us.Pairwise (fun x y => x.1 < y.1)
  mem : ∀ z, z ∈ us ↔ z ∈ ks
  len : us.length = ks.length
theorem keys_of {ks xs us : List ID32} (hn : ks.Nodup) (h1 : xs.Perm ks) (h2 : us.Perm xs) (h3 : SrtP cfI us 0 us.length) : KeysF ks us := by
  have hp := h2.trans h1
  exact ⟨srt_asc (hp.nodup_iff.2 hn) h3, fun z => hp.mem_iff, hp.length_eq⟩
/-! ## the reference's list: the model -/
abbrev PO := ID32 × Int × Int
@[reducible] def poR (x : PO) : List Value := [S x.1.1, .int .i64 x.2.1, .int .i64 x.2.2]
instance : Inhabited PO := ⟨(⟨List.replicate 32 0, rfl⟩, 0, 0)⟩
theorem poR_len (x : PO) : (poR x).length = 3 := rfl
theorem one_poR {x : PO} : ∀ u ∈ poR x, u.oneCell' = true := fun u hu => by
  simp only [poR, List.mem_cons, List.not_mem_nil, or_false] at hu
  rcases hu with rfl | rfl | rfl <;> rfl
theorem one_pos {l : List PO} : ∀ u ∈ (l.map poR).flatten, u.oneCell' = true := fun u hu => by
  obtain ⟨r, hr, hu⟩ := List.mem_flatten.1 hu
  obtain ⟨x, _, rfl⟩ := List.mem_map.1 hr
  exact one_poR u hu
def idsP (l : List PO) : List ID32 := l.map (·.1)
def ddN (l : List ID32) : List ID32 := l.foldl (fun acc x => if x ∈ acc then acc else acc ++ [x]) []
theorem ddN_s {l : List ID32} {x : ID32} {i : Nat} (h : l[i]? = some x) : ddN (l.take (i + 1)) = if x ∈ ddN (l.take i) then ddN (l.take i) else ddN (l.take i) ++ [x] := by
  unfold ddN; rw [List.take_add_one, h, List.foldl_append]; rfl
theorem ddN_go : ∀ (l a : List ID32), a.Nodup → (l.foldl (fun acc x => if x ∈ acc then acc else acc ++ [x]) a).Nodup ∧ ∀ z, z ∈ l.foldl (fun acc x => if x ∈ acc then acc else acc ++ [x]) a ↔ z ∈ a ∨ z ∈ l
  | [], a, h => ⟨h, fun z => by simp⟩
  | x :: l, a, h => by
    rw [List.foldl_cons]
    by_cases e : x ∈ a
    · rw [if_pos e]
      obtain ⟨h1, h2⟩ := ddN_go l a h
      refine ⟨h1, fun z => ?_⟩
      rw [h2, List.mem_cons]
      constructor
      · rintro (q | q)
        · exact .inl q
        · exact .inr (.inr q)
      · rintro (q | q | q)
        · exact .inl q
        · rw [q]; exact .inl e
        · exact .inr q
    · rw [if_neg e]
      have hn : (a ++ [x]).Nodup := by
        rw [List.nodup_append]
        exact ⟨h, by simp, fun u hu v hv => by
          have : v = x := by simpa using hv
          rw [this]; exact fun q => e (q ▸ hu)⟩
      obtain ⟨h1, h2⟩ := ddN_go l (a ++ [x]) hn
      refine ⟨h1, fun z => ?_⟩
      rw [h2, List.mem_append, List.mem_singleton, List.mem_cons, or_assoc]
theorem ddN_nd (l : List ID32) : (ddN l).Nodup := (ddN_go l [] List.nodup_nil).1
theorem ddN_mem (l : List ID32) (z : ID32) : z ∈ ddN l ↔ z ∈ l := by
  have := (ddN_go l [] List.nodup_nil).2 z
  rw [show ddN l = l.foldl (fun acc x => if x ∈ acc then acc else acc ++ [x]) [] from rfl, this]; simp
def nmsF (l : List PO) : Nat := (ddN (idsP l)).length
def cntF (l : List PO) (k : ID32) : Nat := (l.filter (fun x => decide (x.1 = k))).length
theorem cntF_s {l : List PO} {k : ID32} {i : Nat} {x : PO} (h : l[i]? = some x) : cntF (l.take (i + 1)) k = cntF (l.take i) k + if x.1 = k then 1 else 0 := by
  unfold cntF
  rw [List.take_add_one, h, List.filter_append, List.length_append]
  by_cases e : x.1 = k <;> simp [List.filter_cons, e]
theorem cntF_le {l : List PO} {k : ID32} : cntF l k ≤ l.length := List.length_filter_le _ _
theorem nmsF_le {l : List PO} : ∀ i, (ddN ((idsP l).take i)).length ≤ i := by
  intro i
  induction i with
  | zero => exact Nat.le_refl _
  | succ i ih =>
    cases h : (idsP l)[i]? with
    | none => rw [List.take_add_one, h]; simp; omega
    | some x =>
      rw [ddN_s h]
      split
      · omega
      · rw [List.length_append]; simp only [List.length_singleton]; omega
def isK (k : ID32) (n : Int) (x : PO) : Bool := decide (x.1 = k ∧ x.2.1 = n)
def setU (l : List PO) (k : ID32) (n u : Int) : List PO := l.map fun x => if isK k n x then (x.1, x.2.1, max x.2.2 u) else x
def putL (l : List PO) (k : ID32) (n u : Int) : List PO × Int :=
  if n < 0 ∨ 63 < n then (l, 10)
  else if l.any (isK k n) then (setU l k n u, 0)
  else if (cntF l k = 0 ∧ 64 ≤ nmsF l) ∨ 8 ≤ cntF l k then (l, 14)
  else (l ++ [(k, n, max u 0)], 0)
def NDk (l : List PO) : Prop := (l.map fun x => (x.1, x.2.1)).Nodup
theorem setU_at {l : List PO} {k : ID32} {n u : Int} {i : Nat} {x : PO} (hn : NDk l) (h : l[i]? = some x) (hx : isK k n x = true) : setU l k n u = l.set i (x.1, x.2.1, max x.2.2 u) := by
  unfold setU
  apply List.ext_getElem?
  intro j
  rw [List.getElem?_map, List.getElem?_set]
  by_cases e : i = j
  · subst e
    have hl := (List.getElem?_eq_some_iff.1 h).1
    rw [if_pos rfl, if_pos hl, h]
    show some (if isK k n x then _ else x) = _
    rw [if_pos hx]
  · rw [if_neg e]
    cases hj : l[j]? with
    | none => rfl
    | some y =>
      show some (if isK k n y then _ else y) = some y
      have : isK k n y = false := by
        cases hy : isK k n y with
        | false => rfl
        | true =>
          exfalso
          have a := of_decide_eq_true hx
          have b := of_decide_eq_true hy
          obtain ⟨li, ei⟩ := List.getElem?_eq_some_iff.1 h
          obtain ⟨lj, ej⟩ := List.getElem?_eq_some_iff.1 hj
          refine e ((List.getElem_inj (h₀ := by rw [List.length_map]; exact li) (h₁ := by rw [List.length_map]; exact lj) hn).1 ?_)
          rw [List.getElem_map, List.getElem_map, ei, ej, a.1, a.2, b.1, b.2]
      rw [this]; rfl
def dropL (l : List PO) (k : ID32) (n : Int) : List PO := l.filter fun x => !isK k n x
def expL (l : List PO) (now : Int) : List PO := l.filter fun x => decide (now < x.2.2)
def getR (l : List PO) (k : ID32) (now : Int) : List Int := (List.range 64).flatMap fun n : Nat => (l.filter fun x => decide (x.1 = k ∧ x.2.1 = (n : Int) ∧ now < x.2.2)).map fun _ => (n : Int)
def expT (t : Tb) (now : Int) : Tb := (t.map fun q => (q.1, q.2.filter fun e => decide (now < e.2))).filter fun q => decide (q.2 ≠ [])
/-! ### the table and the list tell the same -/
structure RelP (t : Tb) (l : List PO) : Prop where
  tn : (t.map Prod.fst).Nodup
  rn : ∀ q ∈ t, (q.2.map Prod.fst).Nodup ∧ q.2 ≠ []
  ln : NDk l
  me : ∀ k n u, (k, n, u) ∈ l ↔ look (rowT t k) n = some u
  in_ : ∀ x ∈ l, 0 ≤ x.2.1 ∧ x.2.1 < 64
  t64 : t.length ≤ 64
  r8 : ∀ q ∈ t, q.2.length ≤ 8
theorem RelP.zero : RelP [] [] := ⟨List.nodup_nil, by simp, List.nodup_nil, fun k n u => by simp [rowT, look], by simp, by simp, by simp⟩
theorem rowT_mem {t : Tb} {k : ID32} (h : rowT t k ≠ []) : (k, rowT t k) ∈ t := by
  unfold rowT at h ⊢
  cases e : look t k with
  | none => rw [e] at h; exact absurd rfl h
  | some r => exact mem_of_look e
theorem rowT_of {t : Tb} (hn : (t.map Prod.fst).Nodup) {k : ID32} {r : Row21} (h : (k, r) ∈ t) : rowT t k = r := by unfold rowT; rw [look_of_mem hn h]; rfl
theorem RelP.rnd {t : Tb} {l : List PO} (h : RelP t l) (k : ID32) : ((rowT t k).map Prod.fst).Nodup := by
  by_cases e : rowT t k = []
  · rw [e]; exact List.nodup_nil
  · exact (h.rn _ (rowT_mem e)).1
theorem RelP.row8 {t : Tb} {l : List PO} (h : RelP t l) (k : ID32) : (rowT t k).length ≤ 8 := by
  by_cases e : rowT t k = []
  · rw [e]; exact Nat.zero_le _
  · exact h.r8 _ (rowT_mem e)
theorem nd_len {α : Type} {l m : List α} (h : l.Nodup) (k : m.Nodup) (e : ∀ x, x ∈ l ↔ x ∈ m) : l.length = m.length := ((List.perm_ext_iff_of_nodup h k).2 e).length_eq
theorem filt_keys {l : List PO} (h : NDk l) (k : ID32) : ((l.filter (fun x => decide (x.1 = k))).map (fun x => x.2.1)).Nodup := by
  have h1 : ((l.filter (fun x => decide (x.1 = k))).map fun x => (x.1, x.2.1)).Nodup := (List.Sublist.map _ List.filter_sublist).nodup h
  have h2 : (l.filter (fun x => decide (x.1 = k))).map (fun x => (x.1, x.2.1)) = ((l.filter (fun x => decide (x.1 = k))).map (fun x => x.2.1)).map (fun n => (k, n)) := by
    rw [List.map_map]
    refine List.map_congr_left fun x hx => ?_
    have := of_decide_eq_true (List.mem_filter.1 hx).2
    show (x.1, x.2.1) = (k, x.2.1)
    rw [this]
  rw [h2] at h1
  exact (List.pairwise_map.1 h1).imp fun {a b} q e => q (by rw [e])
theorem RelP.cnt {t : Tb} {l : List PO} (h : RelP t l) (k : ID32) : cntF l k = (rowT t k).length := by
  have h1 := nd_len (filt_keys h.ln k) (h.rnd k) (fun n => by
    rw [List.mem_map, List.mem_map]
    constructor
    · rintro ⟨⟨k', n', u⟩, hx, rfl⟩
      obtain ⟨hm, hk⟩ := List.mem_filter.1 hx
      have hk : k' = k := of_decide_eq_true hk
      subst hk
      exact ⟨_, mem_of_look ((h.me _ _ _).1 hm), rfl⟩
    · rintro ⟨⟨n', u⟩, hx, rfl⟩
      exact ⟨(k, n', u), List.mem_filter.2 ⟨(h.me _ _ _).2 (look_of_mem (h.rnd k) hx), decide_eq_true rfl⟩, rfl⟩)
  rw [List.length_map, List.length_map] at h1
  exact h1
theorem RelP.ids {t : Tb} {l : List PO} (h : RelP t l) (k : ID32) : k ∈ idsP l ↔ k ∈ t.map Prod.fst := by
  unfold idsP
  rw [List.mem_map, List.mem_map]
  constructor
  · rintro ⟨⟨k', n, u⟩, hx, rfl⟩
    have h1 := (h.me _ _ _).1 hx
    have h2 : rowT t k' ≠ [] := fun e => by rw [e] at h1; cases h1
    exact ⟨_, rowT_mem h2, rfl⟩
  · rintro ⟨⟨k', r⟩, hx, rfl⟩
    obtain ⟨_, h2⟩ := h.rn _ hx
    cases hr : r with
    | nil => exact absurd hr h2
    | cons e r' =>
      have h3 : rowT t k' = r := rowT_of h.tn hx
      have h4 : look (rowT t k') e.1 = some e.2 := by rw [h3, hr]; simp [look]
      exact ⟨(k', e.1, e.2), (h.me _ _ _).2 h4, rfl⟩
theorem RelP.nms {t : Tb} {l : List PO} (h : RelP t l) : nmsF l = t.length := by
  have := nd_len (ddN_nd (idsP l)) h.tn (fun k => (ddN_mem _ k).trans (h.ids k))
  rw [List.length_map] at this; exact this
theorem RelP.any {t : Tb} {l : List PO} (h : RelP t l) (k : ID32) (n : Int) : l.any (isK k n) = (look (rowT t k) n).isSome := by
  cases e : look (rowT t k) n with
  | none =>
    show _ = false
    rw [List.any_eq_false]
    intro x hx q
    obtain ⟨h1, h2⟩ : x.1 = k ∧ x.2.1 = n := of_decide_eq_true q
    obtain ⟨a, b, c⟩ := x
    simp only at h1 h2
    subst h1 h2
    rw [(h.me _ _ _).1 hx] at e; cases e
  | some u =>
    show _ = true
    rw [List.any_eq_true]
    exact ⟨(k, n, u), (h.me _ _ _).2 e, decide_eq_true ⟨rfl, rfl⟩⟩
theorem rowT_put {t : Tb} {k k' : ID32} {r : Row21} : rowT (put t k r) k' = if k' = k then r else rowT t k' := by
  unfold rowT; rw [look_put]; split <;> rfl
theorem mem_putT {t : Tb} {k : ID32} {r : Row21} {q : ID32 × Row21} (hn : (t.map Prod.fst).Nodup) (h : q ∈ put t k r) : q = (k, r) ∨ q ∈ t := by
  have h1 := look_of_mem (nodup_put hn) (k := q.1) (v := q.2) h
  rw [look_put] at h1
  split at h1
  · rename_i e; left; exact Prod.ext e (Option.some.inj h1).symm
  · right; exact mem_of_look h1
theorem put_lenT {κ ν : Type} [DecidableEq κ] {t : List (κ × ν)} {k : κ} {r : ν} : (put t k r).length = t.length + if k ∈ t.map Prod.fst then 0 else 1 := by
  have := congrArg List.length (keys_put (l := t) (k := k) (v := r))
  rw [List.length_map] at this
  rw [this]
  split <;> simp
theorem sim_put {t : Tb} {l : List PO} (h : RelP t l) (k : ID32) (n u : Int) : putE t k n = (putL l k n u).2 ∧ RelP (putT t k n u) (putL l k n u).1 := by
  by_cases hb : n < 0 ∨ 64 ≤ n
  · have e1 : putE t k n = 10 := by unfold putE; rw [if_pos hb]
    have e2 : putL l k n u = (l, 10) := by unfold putL; rw [if_pos (by omega)]
    rw [e1, e2]
    exact ⟨rfl, by unfold putT; rw [e1, if_neg (by decide)]; exact h⟩
  have hb2 : ¬ (n < 0 ∨ 63 < n) := by omega
  have hE : putE t k n = if (cntF l k = 0 ∧ 64 ≤ nmsF l) ∨ (¬ l.any (isK k n) ∧ 8 ≤ cntF l k) then 14 else 0 := by
    unfold putE
    rw [if_neg hb, h.any, h.cnt, h.nms]
    cases e : look t k with
    | none =>
      have : rowT t k = [] := by unfold rowT; rw [e]; rfl
      rw [this]
      simp [look]
    | some row =>
      have hr : rowT t k = row := by unfold rowT; rw [e]; rfl
      have hne := (h.rn _ (mem_of_look e)).2
      have hl : 0 < row.length := List.length_pos_iff.2 hne
      rw [hr]
      simp only
      have : ¬ row.length = 0 := by omega
      cases e2 : look row n <;> simp [this]
  by_cases ha : l.any (isK k n) = true
  · -- it has it already
    obtain ⟨x, hx, hk⟩ := List.any_eq_true.1 ha
    obtain ⟨a, b, c⟩ := x
    obtain ⟨rfl, rfl⟩ : a = k ∧ b = n := of_decide_eq_true hk
    have hc : 1 ≤ cntF l a := by
      unfold cntF
      exact List.length_pos_iff.2 (List.ne_nil_of_mem (List.mem_filter.2 ⟨hx, decide_eq_true rfl⟩))
    have e1 : putE t a b = 0 := by rw [hE, if_neg (by intro q; rcases q with q | q; exact absurd q.1 (by omega); exact q.1 ha)]
    have e2 : putL l a b u = (setU l a b u, 0) := by unfold putL; rw [if_neg hb2, if_pos ha]
    rw [e1, e2]
    refine ⟨rfl, ?_⟩
    unfold putT
    rw [if_pos e1]
    have hlk := (h.me _ _ _).1 hx
    have hne : rowT t a ≠ [] := fun q => by rw [q] at hlk; cases hlk
    have hmem := rowT_mem hne
    have hin : a ∈ t.map Prod.fst := List.mem_map.2 ⟨_, hmem, rfl⟩
    show RelP (put t a (putR (rowT t a) b u)) _
    have hR : putR (rowT t a) b u = put (rowT t a) b (max c u) := by unfold putR; rw [hlk]; rfl
    rw [hR]
    have hbk : b ∈ (rowT t a).map Prod.fst := List.mem_map.2 ⟨_, mem_of_look hlk, rfl⟩
    refine ⟨nodup_put h.tn, fun q hq => ?_, ?_, fun k' n' u' => ?_, fun y hy => ?_, ?_, fun q hq => ?_⟩
    · rcases mem_putT h.tn hq with e | e
      · rw [e]; exact ⟨nodup_put (h.rnd a), put_ne⟩
      · exact h.rn q e
    · have : (setU l a b u).map (fun x => (x.1, x.2.1)) = l.map fun x => (x.1, x.2.1) := by
        unfold setU
        rw [List.map_map]
        refine List.map_congr_left fun y _ => ?_
        simp only [Function.comp]
        split <;> rfl
      unfold NDk; rw [this]; exact h.ln
    · rw [rowT_put]
      unfold setU
      rw [List.mem_map]
      by_cases e : k' = a
      · subst e
        rw [if_pos rfl, look_put]
        by_cases e2 : n' = b
        · subst e2
          rw [if_pos rfl]
          constructor
          · rintro ⟨y, hy, ey⟩
            by_cases q : isK k' n' y = true
            · rw [if_pos q] at ey
              obtain ⟨q1, q2⟩ : y.1 = k' ∧ y.2.1 = n' := of_decide_eq_true q
              have := (h.me k' n' y.2.2).1 (by rw [← q1, ← q2]; exact hy)
              rw [hlk] at this
              have e3 : max y.2.2 u = u' := congrArg (fun z : PO => z.2.2) ey
              rw [← e3, ← Option.some.inj this]
            · rw [if_neg q] at ey
              subst ey
              exact absurd (decide_eq_true ⟨rfl, rfl⟩) q
          · intro q
            refine ⟨(k', n', c), hx, ?_⟩
            rw [if_pos hk, ← Option.some.inj q]
        · rw [if_neg e2, ← h.me]
          constructor
          · rintro ⟨y, hy, ey⟩
            by_cases q : isK k' b y = true
            · rw [if_pos q] at ey
              obtain ⟨q1, q2⟩ : y.1 = k' ∧ y.2.1 = b := of_decide_eq_true q
              exact absurd ((congrArg (fun z : PO => z.2.1) ey).symm.trans q2) e2
            · rw [if_neg q] at ey; rw [← ey]; exact hy
          · intro q
            refine ⟨_, q, ?_⟩
            rw [if_neg (fun z => e2 (of_decide_eq_true z).2)]
      · rw [if_neg e, ← h.me]
        constructor
        · rintro ⟨y, hy, ey⟩
          by_cases q : isK a b y = true
          · rw [if_pos q] at ey
            obtain ⟨q1, q2⟩ : y.1 = a ∧ y.2.1 = b := of_decide_eq_true q
            exact absurd ((congrArg (fun z : PO => z.1) ey).symm.trans q1) e
          · rw [if_neg q] at ey; rw [← ey]; exact hy
        · intro q
          refine ⟨_, q, ?_⟩
          rw [if_neg (fun z => e (of_decide_eq_true z).1)]
    · unfold setU at hy
      obtain ⟨z, hz, rfl⟩ := List.mem_map.1 hy
      have := h.in_ z hz
      split <;> exact this
    · rw [put_lenT, if_pos hin]; exact h.t64
    · rcases mem_putT h.tn hq with e | e
      · rw [e]
        show (put (rowT t a) b (max c u)).length ≤ 8
        rw [put_lenT, if_pos hbk]; exact h.row8 a
      · exact h.r8 q e
  · -- it hasn't
    have ha' : l.any (isK k n) = false := by simpa using ha
    have hnone : look (rowT t k) n = none := by
      have := h.any k n
      rw [ha'] at this
      cases e : look (rowT t k) n with
      | none => rfl
      | some v => rw [e] at this; cases this
    by_cases hf : (cntF l k = 0 ∧ 64 ≤ nmsF l) ∨ 8 ≤ cntF l k
    · have e1 : putE t k n = 14 := by rw [hE, if_pos (by rcases hf with q | q; exact .inl q; exact .inr ⟨ha, q⟩)]
      have e2 : putL l k n u = (l, 14) := by unfold putL; rw [if_neg hb2, if_neg ha, if_pos hf]
      rw [e1, e2]
      exact ⟨rfl, by unfold putT; rw [e1, if_neg (by decide)]; exact h⟩
    · have e1 : putE t k n = 0 := by rw [hE, if_neg (by intro q; rcases q with q | q; exact hf (.inl q); exact hf (.inr q.2))]
      have e2 : putL l k n u = (l ++ [(k, n, max u 0)], 0) := by unfold putL; rw [if_neg hb2, if_neg ha, if_neg hf]
      rw [e1, e2]
      refine ⟨rfl, ?_⟩
      unfold putT
      rw [if_pos e1]
      show RelP (put t k (putR (rowT t k) n u)) (l ++ [(k, n, max u 0)])
      have hR : putR (rowT t k) n u = put (rowT t k) n (max u 0) := by unfold putR; rw [hnone]; congr 1; show max 0 u = _; omega
      rw [hR]
      have hcnt := h.cnt k
      have hnms := h.nms
      refine ⟨nodup_put h.tn, fun q hq => ?_, ?_, fun k' n' u' => ?_, fun y hy => ?_, ?_, fun q hq => ?_⟩
      · rcases mem_putT h.tn hq with e | e
        · rw [e]; exact ⟨nodup_put (h.rnd k), put_ne⟩
        · exact h.rn q e
      · unfold NDk
        rw [List.map_append, List.nodup_append]
        refine ⟨h.ln, by simp, fun a hA b hB => ?_⟩
        have hb' : b = (k, n) := by simpa using hB
        subst hb'
        rintro rfl
        obtain ⟨y, hy, ey⟩ := List.mem_map.1 hA
        have q : isK k n y = true := decide_eq_true ⟨congrArg Prod.fst ey, congrArg Prod.snd ey⟩
        exact ha (List.any_eq_true.2 ⟨y, hy, q⟩)
      · rw [List.mem_append, rowT_put]
        by_cases e : k' = k
        · subst e
          rw [if_pos rfl, look_put]
          by_cases e2 : n' = n
          · subst e2
            rw [if_pos rfl]
            constructor
            · rintro (q | q)
              · rw [(h.me _ _ _).1 q] at hnone; cases hnone
              · have : (k', n', u') = (k', n', max u 0) := by simpa using q
                exact congrArg some (congrArg (fun z : PO => z.2.2) this).symm
            · intro q; right; rw [← Option.some.inj q]; simp
          · rw [if_neg e2, ← h.me]
            constructor
            · rintro (q | q)
              · exact q
              · have : (k', n', u') = (k', n, max u 0) := by simpa using q
                exact absurd (congrArg (fun z : PO => z.2.1) this) e2
            · exact .inl
        · rw [if_neg e, ← h.me]
          constructor
          · rintro (q | q)
            · exact q
            · have : (k', n', u') = (k, n, max u 0) := by simpa using q
              exact absurd (congrArg (fun z : PO => z.1) this) e
          · exact .inl
      · rcases List.mem_append.1 hy with q | q
        · exact h.in_ y q
        · have : y = (k, n, max u 0) := by simpa using q
          subst this
          show 0 ≤ n ∧ n < 64
          omega
      · rw [put_lenT]
        split
        · exact h.t64
        · rename_i q
          have : rowT t k = [] := by unfold rowT; rw [look_none_iff.2 q]; rfl
          rw [this] at hcnt
          simp only [List.length_nil] at hcnt
          omega
      · rcases mem_putT h.tn hq with e | e
        · rw [e]
          show (put (rowT t k) n (max u 0)).length ≤ 8
          rw [put_lenT]
          split <;> omega
        · exact h.r8 q e
theorem rowT_del {t : Tb} (hn : (t.map Prod.fst).Nodup) {k k' : ID32} : rowT (del t k) k' = if k' = k then [] else rowT t k' := by
  unfold rowT; rw [look_del hn]; split <;> rfl
theorem mem_del {κ ν : Type} [DecidableEq κ] {t : List (κ × ν)} {k : κ} {q : κ × ν} (h : q ∈ del t k) : q ∈ t := by
  induction t with
  | nil => cases h
  | cons p t ih =>
    obtain ⟨a, b⟩ := p
    simp only [del] at h
    split at h
    · exact List.mem_cons_of_mem _ h
    · rcases List.mem_cons.1 h with e | e
      · rw [e]; exact List.mem_cons_self ..
      · exact List.mem_cons_of_mem _ (ih e)
theorem sim_drop {t : Tb} {l : List PO} (h : RelP t l) (k : ID32) (n : Int) : RelP (dropT t k [n]) (dropL l k n) := by
  have hme : ∀ k' n' u', (k', n', u') ∈ dropL l k n ↔ (k', n', u') ∈ l ∧ ¬ (k' = k ∧ n' = n) := fun k' n' u' => by
    unfold dropL
    rw [List.mem_filter]
    have : (!isK k n (k', n', u')) = true ↔ ¬ (k' = k ∧ n' = n) := by
      rw [Bool.not_eq_true', show isK k n (k', n', u') = decide (k' = k ∧ n' = n) from rfl, decide_eq_false_iff_not]
    rw [this]
  have hln : NDk (dropL l k n) := (List.Sublist.map _ List.filter_sublist).nodup h.ln
  have hin : ∀ x ∈ dropL l k n, 0 ≤ x.2.1 ∧ x.2.1 < 64 := fun x hx => h.in_ x (List.mem_filter.1 hx).1
  unfold dropT
  cases e : look t k with
  | none =>
    have hr : rowT t k = [] := by unfold rowT; rw [e]; rfl
    refine ⟨h.tn, h.rn, hln, fun k' n' u' => ?_, hin, h.t64, h.r8⟩
    rw [hme, h.me]
    constructor
    · exact fun q => q.1
    · intro q
      exact ⟨q, fun r => by rw [r.1, hr] at q; cases q⟩
  | some row =>
    have hr : rowT t k = row := by unfold rowT; rw [e]; rfl
    have hrn := h.rnd k
    rw [hr] at hrn
    show RelP (if delL row [n] = [] then del t k else put t k (delL row [n])) _
    have ed : delL row [n] = del row n := rfl
    rw [ed]
    have hld : ∀ n', look (del row n) n' = if n' = n then none else look row n' := fun n' => look_del hrn
    by_cases c : del row n = []
    · rw [if_pos c]
      refine ⟨nodup_del h.tn, fun q hq => h.rn q (mem_del hq), hln, fun k' n' u' => ?_, hin, ?_, fun q hq => h.r8 q (mem_del hq)⟩
      · rw [hme, h.me, rowT_del h.tn]
        by_cases e2 : k' = k
        · subst e2
          rw [if_pos rfl, hr]
          constructor
          · rintro ⟨q1, q2⟩
            have := hld n'
            rw [c, if_neg (fun z => q2 ⟨rfl, z⟩), q1] at this
            cases this
          · intro q; cases q
        · rw [if_neg e2]
          exact ⟨fun q => q.1, fun q => ⟨q, fun r => e2 r.1⟩⟩
      · have := @del_len _ _ _ k t; have := h.t64; omega
    · rw [if_neg c]
      have hin2 : k ∈ t.map Prod.fst := List.mem_map.2 ⟨_, mem_of_look e, rfl⟩
      refine ⟨nodup_put h.tn, fun q hq => ?_, hln, fun k' n' u' => ?_, hin, by rw [put_lenT, if_pos hin2]; exact h.t64, fun q hq => ?_⟩
      · rcases mem_putT h.tn hq with e2 | e2
        · rw [e2]; exact ⟨nodup_del hrn, c⟩
        · exact h.rn q e2
      · rw [hme, h.me, rowT_put]
        by_cases e2 : k' = k
        · subst e2
          rw [if_pos rfl, hr, hld]
          constructor
          · rintro ⟨q1, q2⟩; rw [if_neg (fun z => q2 ⟨rfl, z⟩)]; exact q1
          · intro q
            by_cases e3 : n' = n
            · rw [if_pos e3] at q; cases q
            · rw [if_neg e3] at q; exact ⟨q, fun r => e3 r.2⟩
        · rw [if_neg e2]
          exact ⟨fun q => q.1, fun q => ⟨q, fun r => e2 r.1⟩⟩
      · rcases mem_putT h.tn hq with e2 | e2
        · rw [e2]
          have h1 := h.row8 k
          rw [hr] at h1
          have := @del_len _ _ _ n row
          show (del row n).length ≤ 8
          omega
        · exact h.r8 q e2

theorem look_filter {row : Row21} (hn : (row.map Prod.fst).Nodup) {p : Int × Int → Bool} {n u : Int} : look (row.filter p) n = some u ↔ look row n = some u ∧ p (n, u) = true := by
  have hn2 : ((row.filter p).map Prod.fst).Nodup := (List.Sublist.map _ List.filter_sublist).nodup hn
  constructor
  · intro h
    obtain ⟨h1, h2⟩ := List.mem_filter.1 (mem_of_look h)
    exact ⟨look_of_mem hn h1, h2⟩
  · rintro ⟨h1, h2⟩
    exact look_of_mem hn2 (List.mem_filter.2 ⟨mem_of_look h1, h2⟩)
theorem expT_mem {t : Tb} {now : Int} {q : ID32 × Row21} : q ∈ expT t now ↔ q.2 ≠ [] ∧ ∃ r, (q.1, r) ∈ t ∧ q.2 = r.filter fun e => decide (now < e.2) := by
  unfold expT
  rw [List.mem_filter, List.mem_map, decide_eq_true_eq]
  constructor
  · rintro ⟨⟨r, hr, rfl⟩, h⟩; exact ⟨h, r.2, hr, rfl⟩
  · rintro ⟨h, r, hr, e⟩; exact ⟨⟨(q.1, r), hr, Prod.ext rfl e.symm⟩, h⟩
theorem expT_nd {t : Tb} (h : (t.map Prod.fst).Nodup) (now : Int) : ((expT t now).map Prod.fst).Nodup := by
  unfold expT
  refine (List.Sublist.map _ List.filter_sublist).nodup ?_
  rw [List.map_map]; exact h
theorem sim_exp {t : Tb} {l : List PO} (h : RelP t l) (now : Int) : RelP (expT t now) (expL l now) := by
  have hrow : ∀ k, rowT (expT t now) k = (rowT t k).filter fun e => decide (now < e.2) := fun k => by
    by_cases c : ((rowT t k).filter fun e => decide (now < e.2)) = []
    · rw [c]
      cases e : look (expT t now) k with
      | none => unfold rowT; rw [e]; rfl
      | some r =>
        obtain ⟨h1, r', h2, h3⟩ := expT_mem.1 (mem_of_look e)
        rw [rowT_of h.tn h2] at c
        exact absurd (h3.trans c) h1
    · have hne : rowT t k ≠ [] := fun e => c (by rw [e]; rfl)
      exact rowT_of (expT_nd h.tn now) (expT_mem.2 ⟨c, _, rowT_mem hne, rfl⟩)
  refine ⟨expT_nd h.tn now, fun q hq => ?_, (List.Sublist.map _ List.filter_sublist).nodup h.ln, fun k n u => ?_, fun x hx => h.in_ x (List.mem_filter.1 hx).1, ?_, fun q hq => ?_⟩
  · obtain ⟨h1, r, h2, h3⟩ := expT_mem.1 hq
    refine ⟨?_, h1⟩
    rw [h3]
    exact (List.Sublist.map _ List.filter_sublist).nodup (h.rn _ h2).1
  · rw [hrow, look_filter (h.rnd k)]
    unfold expL
    rw [List.mem_filter, h.me]
  · have : (expT t now).length ≤ t.length := by
      unfold expT
      refine Nat.le_trans (List.length_filter_le _ _) ?_
      rw [List.length_map]; exact Nat.le_refl _
    have := h.t64
    omega
  · obtain ⟨h1, r, h2, h3⟩ := expT_mem.1 hq
    rw [h3]
    exact Nat.le_trans (List.length_filter_le _ _) (h.r8 _ h2)
/-! ### who has it: both tell the same row of numbers -/
theorem asc_int : ∀ {l m : List Int}, l.Pairwise (· < ·) → m.Pairwise (· < ·) → (∀ z, z ∈ l ↔ z ∈ m) → l = m
  | [], [], _, _, _ => rfl
  | [], y :: m, _, _, h => absurd ((h y).2 (List.mem_cons_self ..)) (by simp)
  | x :: l, [], _, _, h => absurd ((h x).1 (List.mem_cons_self ..)) (by simp)
  | x :: l, y :: m, hl, hm, h => by
    obtain ⟨l1, l2⟩ := List.pairwise_cons.1 hl
    obtain ⟨m1, m2⟩ := List.pairwise_cons.1 hm
    have e : x = y := by
      rcases List.mem_cons.1 ((h x).1 (List.mem_cons_self ..)) with a | a
      · exact a
      · rcases List.mem_cons.1 ((h y).2 (List.mem_cons_self ..)) with b | b
        · exact b.symm
        · have := l1 y b; have := m1 x a; omega
    subst e
    congr 1
    refine asc_int l2 m2 fun z => ⟨fun hz => ?_, fun hz => ?_⟩
    · rcases List.mem_cons.1 ((h z).1 (List.mem_cons_of_mem _ hz)) with a | a
      · have := l1 z hz; omega
      · exact a
    · rcases List.mem_cons.1 ((h z).2 (List.mem_cons_of_mem _ hz)) with a | a
      · have := m1 z hz; omega
      · exact a
def getI (l : List PO) (k : ID32) (now : Int) (n : Nat) (m : Nat) : List Int := ((l.take m).filter fun x => decide (x.1 = k ∧ x.2.1 = (n : Int) ∧ now < x.2.2)).map fun _ => (n : Int)
theorem getI_s {l : List PO} {k : ID32} {now : Int} {n m : Nat} {x : PO} (h : l[m]? = some x) : getI l k now n (m + 1) = getI l k now n m ++ if x.1 = k ∧ x.2.1 = (n : Int) ∧ now < x.2.2 then [(n : Int)] else [] := by
  unfold getI
  rw [List.take_add_one, h, List.filter_append, List.map_append]
  by_cases e : x.1 = k ∧ x.2.1 = (n : Int) ∧ now < x.2.2
  · rw [if_pos e]; simp [List.filter_cons, e]
  · rw [if_neg e]; simp only [Option.toList_some, List.filter_cons, decide_eq_false e, List.filter_nil]; rfl
def getN (l : List PO) (k : ID32) (now : Int) (n : Nat) : List Int := (List.range n).flatMap fun n : Nat => getI l k now n l.length
theorem getN_s {l : List PO} {k : ID32} {now : Int} {n : Nat} : getN l k now (n + 1) = getN l k now n ++ getI l k now n l.length := by
  unfold getN; rw [List.range_succ, List.flatMap_append]; simp
theorem getN_fin {l : List PO} {k : ID32} {now : Int} : getN l k now 64 = getR l k now := by
  unfold getN getR getI; rw [List.take_length]
theorem getI_len {l : List PO} {k : ID32} {now : Int} {n m : Nat} : (getI l k now n m).length ≤ m := by
  unfold getI
  rw [List.length_map]
  refine Nat.le_trans (List.length_filter_le _ _) ?_
  rw [List.length_take]; omega
theorem getN_len {l : List PO} {k : ID32} {now : Int} : ∀ n, (getN l k now n).length ≤ n * l.length
  | 0 => by simp [getN]
  | n + 1 => by
    have := getN_len (l := l) (k := k) (now := now) n
    have h2 := @getI_len l k now n l.length
    rw [getN_s, List.length_append, Nat.add_mul, Nat.one_mul]; omega
theorem one_of {α : Type} {l : List α} {a : α} (hn : l.Nodup) (h : ∀ y ∈ l, y = a) : l.length ≤ 1 := by
  match l, hn, h with
  | [], _, _ => exact Nat.zero_le _
  | [_], _, _ => exact Nat.le_refl _
  | x :: y :: r, hn, h =>
    have h1 := h x (by simp)
    have h2 := h y (by simp)
    simp [h1, h2] at hn
theorem pair_one {l : List Int} (h : l.length ≤ 1) : l.Pairwise (· < ·) := by
  match l, h with
  | [], _ => exact List.Pairwise.nil
  | [a], _ => exact List.pairwise_singleton _ _
  | _ :: _ :: _, h => simp only [List.length_cons] at h; omega
theorem getI_one {l : List PO} (h : NDk l) {k : ID32} {now : Int} {n : Nat} : (getI l k now n l.length).length ≤ 1 := by
  unfold getI
  rw [List.length_map, List.take_length]
  have hn : ((l.filter fun x => decide (x.1 = k ∧ x.2.1 = (n : Int) ∧ now < x.2.2)).map fun x => (x.1, x.2.1)).Nodup := (List.Sublist.map _ List.filter_sublist).nodup h
  have hall : ∀ y ∈ (l.filter fun x => decide (x.1 = k ∧ x.2.1 = (n : Int) ∧ now < x.2.2)).map (fun x => (x.1, x.2.1)), y = (k, (n : Int)) := fun y hy => by
    obtain ⟨x, hx, rfl⟩ := List.mem_map.1 hy
    have := of_decide_eq_true (List.mem_filter.1 hx).2
    show (x.1, x.2.1) = _
    rw [this.1, this.2.1]
  have hl : (l.filter fun x => decide (x.1 = k ∧ x.2.1 = (n : Int) ∧ now < x.2.2)).length = ((l.filter fun x => decide (x.1 = k ∧ x.2.1 = (n : Int) ∧ now < x.2.2)).map fun x => (x.1, x.2.1)).length := by rw [List.length_map]
  rw [hl]
  exact one_of hn hall
theorem getN_in {l : List PO} {k : ID32} {now : Int} {n : Nat} {z : Int} : z ∈ getN l k now n ↔ ∃ m : Nat, m < n ∧ z = (m : Int) ∧ ∃ u, (k, (m : Int), u) ∈ l ∧ now < u := by
  unfold getN
  rw [List.mem_flatMap]
  constructor
  · rintro ⟨m, hm, hz⟩
    unfold getI at hz
    rw [List.take_length, List.mem_map] at hz
    obtain ⟨⟨a, b, c⟩, hx, rfl⟩ := hz
    obtain ⟨h1, h2⟩ := List.mem_filter.1 hx
    obtain ⟨rfl, rfl, h5⟩ : a = k ∧ b = (m : Int) ∧ now < c := of_decide_eq_true h2
    exact ⟨m, List.mem_range.1 hm, rfl, c, h1, h5⟩
  · rintro ⟨m, hm, rfl, u, hu, hn⟩
    refine ⟨m, List.mem_range.2 hm, ?_⟩
    unfold getI
    rw [List.take_length, List.mem_map]
    exact ⟨_, List.mem_filter.2 ⟨hu, decide_eq_true ⟨rfl, rfl, hn⟩⟩, rfl⟩
theorem getN_asc {l : List PO} (h : NDk l) {k : ID32} {now : Int} : ∀ n, (getN l k now n).Pairwise (· < ·)
  | 0 => by simp [getN]
  | n + 1 => by
    rw [getN_s, List.pairwise_append]
    refine ⟨getN_asc h n, ?_, fun a ha b hb => ?_⟩
    · exact pair_one (getI_one h)
    · obtain ⟨m, hm, rfl, _⟩ := getN_in.1 ha
      unfold getI at hb
      obtain ⟨_, _, rfl⟩ := List.mem_map.1 hb
      omega
theorem sort_asc {xs : List Int} (h : xs.Nodup) : (xs.mergeSort fun x y => decide (x ≤ y)).Pairwise (· < ·) := by
  have h1 := List.pairwise_mergeSort (le := fun x y : Int => decide (x ≤ y)) (fun a b c h1 h2 => by simp at *; omega) (fun a b => by simp; omega) xs
  have h2 : (xs.mergeSort fun x y => decide (x ≤ y)).Nodup := (List.mergeSort_perm xs _).nodup_iff.2 h
  have h3 : (xs.mergeSort fun x y => decide (x ≤ y)).Pairwise fun a b => decide (a ≤ b) = true ∧ a ≠ b := h1.and h2
  exact h3.imp fun {a b} q => by have := of_decide_eq_true q.1; have := q.2; omega
theorem sim_get {t : Tb} {l : List PO} (h : RelP t l) {k : ID32} {now : Int} {xs : List Int} (hp : xs.Perm ((rowT t k).map Prod.fst)) : getF (rowT t k) now (xs.mergeSort fun x y => decide (x ≤ y)) = getR l k now := by
  have hn : xs.Nodup := hp.nodup_iff.2 (h.rnd k)
  rw [← getN_fin]
  refine asc_int ?_ (getN_asc h.ln 64) fun z => ?_
  · exact (sort_asc hn).sublist List.filter_sublist
  · unfold getF
    rw [List.mem_filter, (List.mergeSort_perm xs _).mem_iff, hp.mem_iff, decide_eq_true_eq, getN_in]
    constructor
    · rintro ⟨h1, h2⟩
      obtain ⟨⟨n, u⟩, hm, rfl⟩ := List.mem_map.1 h1
      have h3 := look_of_mem (h.rnd k) hm
      have h4 := (h.me k n u).2 h3
      obtain ⟨i1, i2⟩ := h.in_ _ h4
      have h2' : now < (look (rowT t k) n).getD 0 := h2
      rw [h3] at h2'
      refine ⟨n.toNat, ?_, ?_, u, ?_, h2'⟩
      · show n.toNat < 64; simp only at i1 i2; omega
      · show n = (n.toNat : Int); simp only at i1; omega
      · have : ((n.toNat : Nat) : Int) = n := by simp only at i1; omega
        rw [this]; exact h4
    · rintro ⟨m, hm, rfl, u, hu, hnow⟩
      have h3 := (h.me k m u).1 hu
      exact ⟨List.mem_map.2 ⟨_, mem_of_look h3, rfl⟩, by rw [h3]; exact hnow⟩
theorem getR_len {t : Tb} {l : List PO} (h : RelP t l) {k : ID32} {now : Int} : (getR l k now).length ≤ 64 := by
  have e : ∀ n, (getN l k now n).length ≤ n := by
    intro n
    induction n with
    | zero => simp [getN]
    | succ n ih =>
      have := @getI_one l h.ln k now n
      rw [getN_s, List.length_append]; omega
  rw [← getN_fin]; exact e 64
theorem nm_T {ids : List ID32} {j : Nat} {w x : ID32} (hg : ids[j]? = some w) (h : x ∉ ids.take j) : (!decide (w.1 = x.1)) = decide (x ∉ ids.take (j + 1)) := by
  rw [← decide_not]
  refine decide_eq_decide.2 ?_
  rw [List.take_add_one, hg, List.mem_append]
  constructor
  · rintro q (r | r)
    · exact h r
    · have : x = w := by simpa using r
      exact q (by rw [this])
  · intro q e
    exact q (.inr (by rw [show x = w from Subtype.ext e.symm]; simp))
theorem nm_F {ids : List ID32} {j : Nat} {w x : ID32} (hg : ids[j]? = some w) (h : ¬ x ∉ ids.take j) : false = decide (x ∉ ids.take (j + 1)) := by
  refine (decide_eq_false ?_).symm
  rw [List.take_add_one, hg, List.mem_append]
  exact fun q => q (.inl (Decidable.not_not.1 h))
/-! ### the names of a list, counted -/
structure NmI (l : List PO) (j : Nat) (nm : List (List UInt8 × Int)) : Prop where
  keys : nm.map Prod.fst = (ddN ((idsP l).take j)).map (·.1)
  pos : ∀ q ∈ nm, 1 ≤ q.2 ∧ q.2 ≤ j
theorem NmI.zero (l : List PO) : NmI l 0 [] := ⟨rfl, by simp⟩
theorem id_mem {l : List ID32} {x : ID32} : x.1 ∈ l.map (·.1) ↔ x ∈ l := by
  rw [List.mem_map]
  exact ⟨fun ⟨y, hy, e⟩ => by rw [← Subtype.ext e]; exact hy, fun h => ⟨x, h, rfl⟩⟩
theorem NmI.get {l : List PO} {j : Nat} {nm : List (List UInt8 × Int)} (h : NmI l j nm) (k : List UInt8) : 0 ≤ (look nm k).getD 0 ∧ (look nm k).getD 0 ≤ j := by
  cases e : look nm k with
  | none => simp
  | some v => have := h.pos _ (mem_of_look e); simp at this ⊢; omega
theorem NmI.step {l : List PO} {j : Nat} {nm : List (List UInt8 × Int)} {x : PO} (h : NmI l j nm) (hx : l[j]? = some x) : NmI l (j + 1) (put nm x.1.1 ((look nm x.1.1).getD 0 + 1)) := by
  have hg : (idsP l)[j]? = some x.1 := by unfold idsP; rw [List.getElem?_map, hx]; rfl
  refine ⟨?_, fun q hq => ?_⟩
  · rw [keys_put, h.keys, ddN_s hg]
    by_cases e : x.1 ∈ ddN ((idsP l).take j)
    · rw [if_pos (id_mem.2 e), if_pos e]
    · rw [if_neg (fun q => e (id_mem.1 q)), if_neg e, List.map_append]; rfl
  · have hv := h.get x.1.1
    have key : ∀ {m : List (List UInt8 × Int)} {k : List UInt8} {v : Int} {q : List UInt8 × Int}, q ∈ put m k v → q = (k, v) ∨ q ∈ m := by
      intro m k v q
      induction m with
      | nil => intro h; simp [put] at h; exact .inl h
      | cons p m ih =>
        obtain ⟨a, b⟩ := p
        intro h
        simp only [put] at h
        split at h
        · rcases List.mem_cons.1 h with e | e
          · exact .inl e
          · exact .inr (List.mem_cons_of_mem _ e)
        · rcases List.mem_cons.1 h with e | e
          · exact .inr (e ▸ List.mem_cons_self ..)
          · rcases ih e with q | q
            · exact .inl q
            · exact .inr (List.mem_cons_of_mem _ q)
    rcases key hq with e | e
    · rw [e]; show 1 ≤ _ + 1 ∧ _ + 1 ≤ ((j + 1 : Nat) : Int); omega
    · have := h.pos q e; omega
theorem NmI.fin {l : List PO} {nm : List (List UInt8 × Int)} (h : NmI l l.length nm) : nm.length = nmsF l ∧ ∀ x : ID32, x ∈ idsP l → (look nm x.1).getD 0 ≠ 0 := by
  have hk := h.keys
  rw [List.take_of_length_le (by unfold idsP; rw [List.length_map]; exact Nat.le_refl _)] at hk
  constructor
  · have := congrArg List.length hk
    rw [List.length_map, List.length_map] at this
    exact this
  · intro x hx e
    have h1 : x.1 ∈ nm.map Prod.fst := by rw [hk]; exact id_mem.2 ((ddN_mem _ _).2 hx)
    cases q : look nm x.1 with
    | none => exact look_none_iff.1 q h1
    | some v =>
      rw [q] at e
      have := h.pos _ (mem_of_look q)
      simp at this e
      omega
def idN (n : Int) : ID32 := ⟨UInt8.ofNat (n % 70).toNat :: 1 :: List.replicate 30 0, rfl⟩
theorem tmod70 (n : Int) : (n.tmod 70 + 70).tmod 70 = n % 70 := by
  have key : ∀ m : Int, 0 ≤ m → m.tmod 70 = m % 70 := fun m hm => Int.tmod_eq_emod_of_nonneg hm
  by_cases h : 0 ≤ n
  · rw [key n h, key _ (by omega)]; omega
  · have h1 : n.tmod 70 = -((-n) % 70) := by
      rw [← key (-n) (by omega), Int.neg_tmod]; omega
    rw [h1, key _ (by omega)]; omega
theorem putL_len {l : List PO} {k : ID32} {n u : Int} : (putL l k n u).1.length ≤ l.length + 1 := by
  unfold putL
  split
  · exact Nat.le_succ _
  · split
    · show (setU l k n u).length ≤ _; unfold setU; rw [List.length_map]; exact Nat.le_succ _
    · split
      · exact Nat.le_succ _
      · show (l ++ [_]).length ≤ _; rw [List.length_append]; exact Nat.le_refl _
theorem asc_pair {us : List ID32} (h : us.Pairwise (fun x y => x.1 < y.1)) {i j : Nat} {x y : ID32} (hx : us[i]? = some x) (hy : us[j]? = some y) (hij : i < j) : ¬ 0 ≤ cfI x y := by
  obtain ⟨h1, e1⟩ := List.getElem?_eq_some_iff.1 hx
  obtain ⟨h2, e2⟩ := List.getElem?_eq_some_iff.1 hy
  have := List.pairwise_iff_getElem.1 h i j h1 h2 hij
  rw [e1, e2] at this
  have := cmpB_lt.2 this
  unfold cfI; omega
/-! ## what is over goes, in general -/
def restG (p : Int → Int → Bool) (row : Row21) (rest : List Int) : Row21 := row.filter fun e => decide (e.1 ∈ rest) || !p e.1 e.2
theorem nd_one {κ ν : Type} {l : List (κ × ν)} (h : (l.map Prod.fst).Nodup) {k : κ} {v w : ν} (a : (k, v) ∈ l) (b : (k, w) ∈ l) : v = w := by
  obtain ⟨i, hi, ei⟩ := List.mem_iff_getElem.1 a
  obtain ⟨j, hj, ej⟩ := List.mem_iff_getElem.1 b
  have : i = j := (List.getElem_inj (h₀ := by rw [List.length_map]; exact hi) (h₁ := by rw [List.length_map]; exact hj) h).1 (by rw [List.getElem_map, List.getElem_map, ei, ej])
  subst this
  rw [ei] at ej; exact (Prod.ext_iff.1 ej).2
section
variable {p : Int → Int → Bool} {row : Row21} {rest rs : List Int} {k v : Int}
theorem restG_0 : restG p row (row.map Prod.fst) = row := List.filter_eq_self.2 fun e he => by rw [decide_eq_true (List.mem_map_of_mem he)]; rfl
theorem restG_fin : restG p row [] = row.filter fun e => !p e.1 e.2 := by unfold restG; exact List.filter_congr fun e _ => by simp
theorem restG_nd (h : (row.map Prod.fst).Nodup) : ((restG p row rest).map Prod.fst).Nodup := (List.Sublist.map _ List.filter_sublist).nodup h
theorem restG_mem (h : (k, v) ∈ restG p row rest) : (k, v) ∈ row := (List.mem_filter.1 h).1
theorem restG_del (h : (row.map Prod.fst).Nodup) (hr : rest.Nodup) (hp : rest.Perm (k :: rs)) (hkv : (k, v) ∈ restG p row rest) (e : p k v = true) : del (restG p row rest) k = restG p row rs := by
  rw [del_filter (restG_nd h)]
  unfold restG
  rw [List.filter_filter]
  refine List.filter_congr fun q hq => ?_
  have hk := (rest_nd hr hp).2
  have hm : q.1 ∈ rest ↔ q.1 = k ∨ q.1 ∈ rs := by rw [hp.mem_iff, List.mem_cons]
  by_cases h1 : q.1 = k
  · have hv : q.2 = v := by
      refine nd_one h (k := k) ?_ (restG_mem hkv)
      rw [← h1]; exact hq
    rw [h1, hv, e, decide_eq_false (show ¬ k ≠ k from fun z => z rfl), decide_eq_false hk]; rfl
  · rw [decide_eq_true (show q.1 ≠ k from h1), Bool.true_and]
    congr 1
    exact decide_eq_decide.2 (hm.trans ⟨fun z => z.resolve_left h1, .inr⟩)
theorem restG_keep (h : (row.map Prod.fst).Nodup) (hp : rest.Perm (k :: rs)) (hkv : (k, v) ∈ restG p row rest) (e : p k v = false) : restG p row rest = restG p row rs := by
  unfold restG
  refine List.filter_congr fun q hq => ?_
  have hm : q.1 ∈ rest ↔ q.1 = k ∨ q.1 ∈ rs := by rw [hp.mem_iff, List.mem_cons]
  by_cases h1 : q.1 = k
  · have hv : q.2 = v := by
      refine nd_one h (k := k) ?_ (restG_mem hkv)
      rw [← h1]; exact hq
    rw [h1, hv, e]; simp
  · congr 1
    exact decide_eq_decide.2 (hm.trans ⟨fun z => z.resolve_left h1, .inr⟩)
end
def fRow (now : Int) (row : Row21) : Row21 := row.filter fun e => !decide (e.2 ≤ now)
def exG (now : Int) (rest : List ID32) (q : ID32 × (Nat × Row21)) : Option (ID32 × (Nat × Row21)) := if q.1 ∈ rest then some q else if fRow now q.2.2 = [] then none else some (q.1, (q.2.1, fRow now q.2.2))
def exM (now : Int) (ml : ML) (rest : List ID32) : ML := ml.filterMap (exG now rest)
theorem exG_key {now : Int} {rest : List ID32} {q r : ID32 × (Nat × Row21)} (h : exG now rest q = some r) : r.1 = q.1 := by
  unfold exG at h
  split at h
  · rw [← Option.some.inj h]
  · split at h
    · cases h
    · rw [← Option.some.inj h]
theorem fm_self {α : Type} {g : α → Option α} : ∀ {l : List α}, (∀ q ∈ l, g q = some q) → l.filterMap g = l
  | [], _ => rfl
  | a :: l, h => by rw [List.filterMap_cons, h a (by simp), fm_self (fun q hq => h q (by simp [hq]))]
theorem fm_sub {now : Int} {rest : List ID32} : ∀ (ml : ML), ((ml.filterMap (exG now rest)).map Prod.fst).Sublist (ml.map Prod.fst)
  | [] => List.Sublist.refl _
  | a :: l => by
    rw [List.filterMap_cons]
    cases e : exG now rest a with
    | none => exact (fm_sub l).cons _
    | some r =>
      show (r.1 :: (l.filterMap (exG now rest)).map Prod.fst).Sublist (a.1 :: l.map Prod.fst)
      rw [exG_key e]
      exact (fm_sub l).cons_cons _
theorem exM_0 {now : Int} {ml : ML} : exM now ml (ml.map Prod.fst) = ml := fm_self fun q hq => by unfold exG; rw [if_pos (List.mem_map_of_mem hq)]
theorem exM_nd {now : Int} {ml : ML} {rest : List ID32} (h : (ml.map Prod.fst).Nodup) : ((exM now ml rest).map Prod.fst).Nodup := (fm_sub ml).nodup h
theorem exM_mem {now : Int} {ml : ML} {rest : List ID32} {k : ID32} {v : Nat × Row21} (hk : k ∈ rest) (h : (k, v) ∈ exM now ml rest) : (k, v) ∈ ml := by
  obtain ⟨q, hq, e⟩ := List.mem_filterMap.1 h
  have h1 : k = q.1 := exG_key e
  unfold exG at e
  rw [if_pos (by rw [← h1]; exact hk)] at e
  rw [← Option.some.inj e]; exact hq
theorem put_map {κ ν : Type} [DecidableEq κ] {k : κ} {v : ν} : ∀ {l : List (κ × ν)}, (l.map Prod.fst).Nodup → k ∈ l.map Prod.fst → put l k v = l.map fun p => if p.1 = k then (k, v) else p
  | [], _, h => by cases h
  | (a, x) :: l, hn, h => by
    obtain ⟨n1, n2⟩ := List.nodup_cons.1 hn
    simp only [put, List.map_cons]
    by_cases e : a = k
    · subst e
      rw [if_pos rfl, if_pos rfl]
      congr 1
      refine (List.map_congr_left (g := id) fun p hp => ?_).symm ▸ (List.map_id _).symm
      rw [if_neg fun q => n1 (by rw [← q]; exact List.mem_map.2 ⟨p, hp, rfl⟩)]; rfl
    · rw [if_neg e, if_neg e]
      congr 1
      exact put_map n2 ((List.mem_cons.1 h).resolve_left fun q => e q.symm)
theorem fm_filter {α : Type} {g : α → Option α} {f : α → Bool} : ∀ l : List α, (l.filterMap g).filter f = l.filterMap fun x => match g x with | none => none | some y => if f y then some y else none
  | [] => rfl
  | a :: l => by
    rw [List.filterMap_cons, List.filterMap_cons]
    cases e : g a with
    | none => exact fm_filter l
    | some y =>
      show (y :: l.filterMap g).filter f = _
      rw [List.filter_cons]
      by_cases h : f y = true
      · rw [if_pos h, fm_filter l]; simp [h]
      · rw [if_neg h, fm_filter l]; simp [h]
theorem fm_map {α : Type} {g : α → Option α} {f : α → α} : ∀ l : List α, (l.filterMap g).map f = l.filterMap fun x => (g x).map f
  | [] => rfl
  | a :: l => by
    rw [List.filterMap_cons, List.filterMap_cons]
    cases e : g a with
    | none => exact fm_map l
    | some y => show f y :: _ = f y :: _; rw [fm_map l]
theorem fm_congr {α : Type} {g h : α → Option α} : ∀ {l : List α}, (∀ q ∈ l, g q = h q) → l.filterMap g = l.filterMap h
  | [], _ => rfl
  | a :: l, e => by rw [List.filterMap_cons, List.filterMap_cons, e a (by simp), fm_congr (fun q hq => e q (by simp [hq]))]
section
variable {now : Int} {ml : ML} {rest rs : List ID32} {k : ID32} {rb : Nat} {row : Row21}
theorem exG_at (hr : rest.Nodup) (hp : rest.Perm (k :: rs)) {q : ID32 × (Nat × Row21)} (hq : q.1 ≠ k) : exG now rest q = exG now rs q := by
  have hm : q.1 ∈ rest ↔ q.1 = k ∨ q.1 ∈ rs := by rw [hp.mem_iff, List.mem_cons]
  unfold exG
  by_cases h : q.1 ∈ rs
  · rw [if_pos h, if_pos (hm.2 (.inr h))]
  · rw [if_neg h, if_neg (fun z => (hm.1 z).elim hq h)]
theorem exM_del (h : (ml.map Prod.fst).Nodup) (hr : rest.Nodup) (hp : rest.Perm (k :: rs)) (hm : (k, (rb, row)) ∈ ml) (e : fRow now row = []) : del (exM now ml rest) k = exM now ml rs := by
  rw [del_filter (exM_nd h)]
  unfold exM
  rw [fm_filter]
  refine fm_congr fun q hq => ?_
  by_cases h1 : q.1 = k
  · have hv : q.2 = (rb, row) := nd_one h (k := k) (by rw [← h1]; exact hq) hm
    have e1 : exG now rest q = some q := by unfold exG; rw [if_pos (by rw [h1, hp.mem_iff]; exact List.mem_cons_self ..)]
    have e2 : exG now rs q = none := by unfold exG; rw [if_neg (by rw [h1]; exact (List.nodup_cons.1 (hp.nodup_iff.1 hr)).1), hv, if_pos e]
    rw [e1, e2]
    simp [h1]
  · rw [exG_at hr hp h1]
    cases e1 : exG now rs q with
    | none => rfl
    | some r =>
      have := exG_key e1
      simp [this, h1]
theorem exM_put (h : (ml.map Prod.fst).Nodup) (hr : rest.Nodup) (hp : rest.Perm (k :: rs)) (hm : (k, (rb, row)) ∈ ml) (hl : look (exM now ml rest) k = some (rb, row)) (e : fRow now row ≠ []) : put (exM now ml rest) k (rb, fRow now row) = exM now ml rs := by
  rw [put_map (exM_nd h) (List.mem_map.2 ⟨_, mem_of_look hl, rfl⟩)]
  unfold exM
  rw [fm_map]
  refine fm_congr fun q hq => ?_
  by_cases h1 : q.1 = k
  · have hv : q.2 = (rb, row) := nd_one h (k := k) (by rw [← h1]; exact hq) hm
    have e1 : exG now rest q = some q := by unfold exG; rw [if_pos (by rw [h1, hp.mem_iff]; exact List.mem_cons_self ..)]
    have e2 : exG now rs q = some (k, (rb, fRow now row)) := by
      unfold exG; rw [if_neg (by rw [h1]; exact (List.nodup_cons.1 (hp.nodup_iff.1 hr)).1), hv, if_neg e, h1]
    rw [e1, e2]
    show some (if q.1 = k then _ else q) = _
    rw [if_pos h1]
  · rw [exG_at hr hp h1]
    cases e1 : exG now rs q with
    | none => rfl
    | some r =>
      show some (if r.1 = k then _ else r) = some r
      rw [exG_key e1, if_neg h1]
theorem exM_fin : er (exM now ml []) = expT (er ml) now := by
  unfold exM expT er
  have hf : ∀ row : Row21, (row.filter fun e => decide (now < e.2)) = fRow now row := fun row => by
    unfold fRow
    exact List.filter_congr fun e _ => by rw [← decide_not]; exact decide_eq_decide.2 (by omega)
  induction ml with
  | nil => rfl
  | cons q l ih =>
    rw [List.filterMap_cons]
    have e0 : exG now [] q = if fRow now q.2.2 = [] then none else some (q.1, (q.2.1, fRow now q.2.2)) := by unfold exG; rw [if_neg (by simp)]
    rw [e0, List.map_cons, List.map_cons, List.filter_cons]
    by_cases e : fRow now q.2.2 = []
    · rw [if_pos e]
      simp only [hf, e, ne_eq, not_true_eq_false, decide_false, Bool.false_eq_true, if_false]
      simp only [hf] at ih
      exact ih
    · rw [if_neg e]
      simp only [hf, e, ne_eq, not_false_eq_true, decide_true, if_true, List.map_cons]
      simp only [hf] at ih
      rw [ih]
end
theorem er_keys {ml : ML} : (er ml).map Prod.fst = ml.map Prod.fst := by unfold er; rw [List.map_map]; rfl
section
variable {κ ν : Type} [DecidableEq κ] {kenc : κ → Value} {venc : ν → Value}
theorem mpi_same {b it : Nat} {l l' : List (κ × ν)} {rest : List κ} {cur : Option κ} (e : l.map (fun p => (p.1, venc p.2)) = l'.map (fun p => (p.1, venc p.2))) (z : Hp) (h : mpi b it kenc venc l rest cur z) : mpi b it kenc venc l' rest cur z := by
  obtain ⟨x, hx⟩ := h
  have hk : l.map Prod.fst = l'.map Prod.fst := by
    have := congrArg (List.map Prod.fst) e
    rw [List.map_map, List.map_map] at this; exact this
  have hv : l.map (fun p => (kenc p.1, venc p.2)) = l'.map (fun p => (kenc p.1, venc p.2)) := by
    have := congrArg (List.map (fun q : κ × Value => (kenc q.1, q.2))) e
    rw [List.map_map, List.map_map] at this; exact this
  exact ⟨⟨x.es, x.clock, x.since, x.seen, x.last, x.val.trans hv, hk ▸ x.keys, x.borns, x.old, x.sc, x.sl, by rw [restK_keys, ← hk, ← restK_keys]; exact x.rest, x.now, fun k hc => by
    obtain ⟨e1, h1, h2, v, h3, h4, h5⟩ := x.cur k hc
    have h6 : (k, venc v) ∈ l'.map (fun p => (p.1, venc p.2)) := by rw [← e]; exact List.mem_map.2 ⟨_, h3, rfl⟩
    obtain ⟨q, hq, eq⟩ := List.mem_map.1 h6
    refine ⟨e1, h1, h2, q.2, ?_, h4, ?_⟩
    · have : q.1 = k := congrArg Prod.fst eq
      rw [← this]; exact hq
    · rw [h5]; exact (congrArg Prod.snd eq).symm⟩, hx⟩
theorem T.mpiSame {σ : World} {sn : Nat} {G : Act → World → Prop} {K : Env} {D M N : List Asn} {b it : Nat} {l l' : List (κ × ν)} {rest : List κ} {cur : Option κ} (hM : Pull (mpi b it kenc venc l rest cur) M N) (e : l.map (fun p => (p.1, venc p.2)) = l'.map (fun p => (p.1, venc p.2)))
    (next : T σ sn G K D (mpi b it kenc venc l' rest cur :: N)) : T σ sn G K D M := fun a w s t => next a w s ((t.ent hM).ent (Ent.imp fun z h => mpi_same e z h))
theorem put_venc {l : List (κ × ν)} {k : κ} {v u : ν} (h : look l k = some v) (e : venc u = venc v) : (put l k u).map (fun p => (p.1, venc p.2)) = l.map (fun p => (p.1, venc p.2)) := by
  induction l with
  | nil => cases h
  | cons p l ih =>
    obtain ⟨a, x⟩ := p
    simp only [look] at h
    simp only [put]
    by_cases q : a = k
    · rw [if_pos q] at h ⊢
      obtain rfl := Option.some.inj h
      simp [e, q]
    · rw [if_neg q] at h ⊢
      simp [ih h]
end

theorem bcx : IsX Try.prog 36 Extern.BytealgCompare.compare := IsX.of Try.func36 (by kernel_rfl) (by kernel_rfl) (by kernel_rfl) (by kernel_rfl)
set_option maxHeartbeats 400000 in
theorem bcmp_spec {a b : Option Addr} {la ca lb cb : Nat} {p q : List UInt8}  : Spec Try.prog 29 [.slice a la ca, .slice b lb cb] [rsl 1 a la ca (p.map yr), rsl 1 b lb cb (q.map yr)] [] (fun v D' M' => v = .int .i64 (cmpB p q) ∧ D' = [] ∧ M' = []) := by
  refine Spec.intro (n := 8) Try.func29 rfl rfl (by decide) (Nat.le_of_ble_eq_true rfl) rfl (fun _ => qA) (fun _ => qA) ?_
  intro σ D M
  refine T.seq ?_
  refine T.region ?_
  refine L.assign rfl rfl ?_
  refine L.nil ?_
  refine T.thenN ?_
  refine T.seq ?_
  refine T.region ?_
  refine L.move rfl rfl ?_
  refine L.move rfl rfl ?_
  refine L.cmpSl bcx rfl (evs.cons rfl <| evs.cons rfl <| evs.nil) qM qM ?_
  refine L.assign rfl rfl ?_
  refine L.nil ?_
  refine T.thenN ?_
  refine T.ret ?_
  exact T.ret1 rfl rfl ⟨rfl, rfl, rfl⟩ qD qF
set_option maxHeartbeats 400000 in
theorem ocmp_spec {x y : ID32}  : Spec Try.prog 20 [.agg (iC x).toArray, .agg (iC y).toArray] [] [] (fun v D' M' => v = .int .i64 (cfI x y) ∧ D' = [] ∧ M' = []) := by
  refine Spec.intro (n := 8) Try.func20 rfl rfl (by decide) (Nat.le_of_ble_eq_true rfl) rfl (fun _ => qA) (fun _ => qA) ?_
  intro σ D M
  have hx := x.2
  have hy := y.2
  have hx3 := iC_len x
  have hy3 := iC_len y
  refine T.seq ?_
  refine T.region ?_
  refine L.box rfl rfl rfl (fun b2 => ?_)
  refine L.box rfl rfl rfl (fun b3 => ?_)
  refine L.assign rfl rfl ?_
  refine L.nil ?_
  refine T.toOwn (b := b2) (len := 32) qP (rows := x.1.map yr) (sz := 1) (yr_flat x.1) (by simp [hx]) (by simp) ?_
  refine T.ownRsl qP ?_
  refine T.toOwn (b := b3) (len := 32) qP (rows := y.1.map yr) (sz := 1) (yr_flat y.1) (by simp [hy]) (by simp) ?_
  refine T.ownRsl qP ?_
  refine T.thenN ?_
  refine T.seq ?_
  refine T.regionQ (by kernel_rfl) (by kernel_rfl) ?_
  refine L.sliceArr rfl Try.underlying28 sz5 rfl Bd.no Bd.no qI qI ?_
  refine L.known (t := 5) (u := .slice (some ⟨b2, 0, none⟩) 32 32) rfl (by first | rfl | simp [cutA, Addr.add]) ?_
  refine L.sliceArr rfl Try.underlying28 sz5 rfl Bd.no Bd.no qI qI ?_
  refine L.known (t := 6) (u := .slice (some ⟨b3, 0, none⟩) 32 32) rfl (by first | rfl | simp [cutA, Addr.add]) ?_
  refine L.callF rfl (evs.cons rfl <| evs.cons rfl <| evs.nil) qD qS (bcmp_spec (p := x.1) (q := y.1)) (by rintro u D1 M1 ⟨rfl, rfl, rfl⟩; exact ⟨rfl, _, qA, qF⟩) ?_
  refine L.assign rfl rfl ?_
  refine L.nilQ ?_
  refine T.thenN ?_
  refine T.ret ?_
  exact T.ret1 rfl rfl ⟨rfl, rfl, rfl⟩ qD qF
set_option maxHeartbeats 400000 in
theorem keysitP_spec {ml : List (ID32 × Nat × Row21)} {m c l : Nat} {ψ : Asn} {J : List ID32 → Asn} (hY : ∀ pre x, (pre.length < ml.length) → YSpec Try.prog l [.agg (x.1.map Y).toArray] [ψ] [J pre] (fun v D' M' => v = .bool true ∧ D' = [] ∧ M' = [J (pre ++ [x])])) : Spec Try.prog 35 [fnY l, .pointer (some ⟨c, 0, none⟩)] [cl c 55 [.map (some m)], ψ] [mp m aK rV2 ml, J []] (fun v D' M' => ∃ (xs : List ID32), v = .tuple #[] ∧ (xs.Perm (ml.map Prod.fst)) ∧ D' = [] ∧ M' = [mp m aK rV2 ml, J xs]) := by
  refine Spec.intro (n := 14) Try.func35 rfl rfl (by decide) (Nat.le_of_ble_eq_true rfl) rfl (fun _ => qA) (fun _ => qA) ?_
  intro σ D M
  refine T.mpNodup (kenc := aK) (venc := rV2) qM (fun hnd => ?_)
  refine T.seq ?_
  refine T.region ?_
  refine L.load rfl sc55 rfl qC ?_
  refine L.range (kenc := aK) (venc := rV2) rfl Try.underlying55 rfl qP (fun it => ?_)
  refine L.nil ?_
  refine T.thenN ?_
  refine T.block ?_
  refine T.loop (fun K' D' M' μ => ∃ (pre rest : List ID32) (cur : Option ID32), ((pre ++ rest).Perm (ml.map Prod.fst)) ∧ K' = [] ∧ D' = [] ∧ M' = [mpi m it aK rV2 ml rest cur, J pre] ∧ μ = rest.length) (.cons (t := 0) rfl <| .cons (t := 5) rfl <| SubK.nil _) (⟨[], ml.map Prod.fst, none, (by simp), rfl, rfl, rfl, rfl⟩) (SubK.nil _) qD qS ?_
  rintro K1 D1 M1 m1 ⟨pre, rest, cur, hP, rfl, rfl, rfl, rfl⟩
  refine T.norm3 qA qA qA ?_
  refine T.seq ?_
  refine T.region ?_
  refine L.next rfl rfl qP (fun hre => ?_) (fun k v rs hpe hkv => ?_)
  · skip
    skip
    refine L.extract rfl rfl rfl ?_
    refine L.nil ?_
    refine T.thenN ?_
    refine T.seq ?_
    refine T.condF rfl rfl ?_
    refine T.exit ?_
    refine T.thenX ?_
    refine T.thenX ?_
    refine T.blkX ?_
    subst hre
    refine T.mpiMp qP ?_
    exact T.retN (by simp) rfl ⟨pre, rfl, by simpa using hP, rfl, rfl⟩ qD qF
  · skip
    skip
    refine L.extract rfl rfl rfl ?_
    refine L.nil ?_
    refine T.thenN ?_
    refine T.seq ?_
    refine T.condT rfl rfl ?_
    refine T.skip ?_
    refine T.thenN ?_
    refine T.block ?_
    refine T.seq ?_
    refine T.region ?_
    refine L.entry (ent_inj aK_inj hnd hkv) rfl rfl qM hkv ?_
    refine L.extract rfl rfl rfl ?_
    refine L.alloc rfl ze28 (fun b3 => ?_)
    refine L.storeA ag28 rfl rfl qL qO qU qW ?_
    refine L.nil ?_
    have hlt : pre.length < ml.length := by have h2 := hpe.length_eq; have h3 := hP.length_eq; simp at h2 h3; omega
    have hk32 := k.2
    refine T.thenN ?_
    refine T.seq ?_
    refine T.region ?_
    refine L.move rfl rfl ?_
    refine L.loadA rfl ag28 rfl qN ?_
    refine L.callY (M0 := [J pre]) rfl rfl rfl (evs.cons rfl evs.nil) qD qS (hY pre k hlt) ?_
    rintro _ _ _ ⟨rfl, rfl, rfl⟩
    refine L.norm qA qA ?_
    refine L.notB rfl rfl ?_
    refine L.nil ?_
    refine T.thenN ?_
    refine T.condF rfl rfl ?_
    refine T.skip ?_
    refine T.blkN ?_
    refine T.thenN ?_
    exact T.back ⟨pre ++ [k], rs, some k, (by rw [List.append_assoc]; exact (List.Perm.append_left pre hpe.symm).trans hP), rfl, rfl, rfl, rfl⟩ (by have := hpe.length_eq; simp at this; omega) (SubK.nil _) (.cons (t := 0) rfl <| .cons (t := 5) rfl <| SubK.nil _) qD qD qF
theorem keys_iterP {ml : List (ID32 × Nat × Row21)} {m c : Nat} : Iter Try.prog 35 [.pointer (some ⟨c, 0, none⟩)] (fun x : ID32 => [.agg (x.1.map Y).toArray]) (fun pre x => pre.length < ml.length) (cl c 55 [.map (some m)]) (mp m aK rV2 ml) (mp m aK rV2 ml) (fun xs => xs.Perm (ml.map Prod.fst)) :=
  ⟨fun l ψ J hY => (keysitP_spec hY).imp (fun v D' M' ⟨xs, _, h2, h3, h4⟩ => ⟨xs, h2, h3, h4⟩)⟩
set_option maxHeartbeats 400000 in
theorem keysfP_spec {m : Nat}  : Spec Try.prog 24 [.map (some m)] [] [] (fun v D' M' => ∃ (c : Nat), v = fnV 35 [.pointer (some ⟨c, 0, none⟩)] ∧ D' = [cl c 55 [.map (some m)]] ∧ M' = []) := by
  refine Spec.intro (n := 4) Try.func24 rfl rfl (by decide) (Nat.le_of_ble_eq_true rfl) rfl (fun _ => qA) (fun _ => qA) ?_
  intro σ D M
  refine T.seq ?_
  refine T.region ?_
  refine L.box rfl rfl rfl (fun b1 => ?_)
  refine L.assign rfl rfl ?_
  refine L.nil ?_
  refine T.freeze (A := cl b1 55 [.map (some m)]) qP ?_
  refine T.thenN ?_
  refine T.seq ?_
  refine T.region ?_
  refine L.makeFunc rfl (evs.cons rfl <| evs.nil) ?_
  refine L.assign rfl rfl ?_
  refine L.nil ?_
  refine T.thenN ?_
  refine T.ret ?_
  exact T.ret1 rfl rfl ⟨_, rfl, rfl, rfl⟩ qD qF
set_option maxHeartbeats 400000 in
theorem appseqIP_spec {f : FuncId} {lb : List Value} {Ok : List ID32 → ID32 → Prop} {φ A0 A1 : Asn} {SS : List ID32 → Prop}  (hI : Iter Try.prog f lb (fun x : ID32 => [.agg (x.1.map Y).toArray]) Ok φ A0 A1 SS) (hOk : ∀ pre x, Ok pre x → pre.length < 1000000000) : Spec Try.prog 40 [.slice none 0 0, fnV f lb] [φ] [A0] (fun v D' M' => ∃ (a' : Option Addr) (n' c' : Nat) (xs : List ID32), v = .slice a' n' c' ∧ (SS xs) ∧ (xs.length = n') ∧ D' = [] ∧ M' = [A1, own 32 28 a' n' c' ((xs).map iC)]) := by
  refine Spec.intro (n := 13) Try.func40 rfl rfl (by decide) (Nat.le_of_ble_eq_true rfl) rfl (fun _ => qA) (fun _ => qA) ?_
  intro σ D M
  refine T.seq ?_
  refine T.region ?_
  refine L.box rfl rfl rfl (fun b2 => ?_)
  refine L.assign rfl rfl ?_
  refine L.nil ?_
  refine T.newOwn (sz := 32) (e := 28) ?_
  refine T.thenN ?_
  refine T.seq ?_
  refine T.seq ?_
  refine T.region ?_
  refine L.move rfl rfl ?_
  refine L.nil ?_
  refine T.thenN ?_
  refine T.block ?_
  refine T.mkJ (J := (fun (pre : List (ID32)) => exs fun (a8 : Option Addr) => exs fun (n8 : Nat) => exs fun (c8 : Nat) => pur (pre.length = n8) (all [cl b2 34 [.slice a8 n8 c8], own 32 28 a8 n8 c8 ((pre).map iC)]) : List (ID32) → Asn) []) (L := (fun (pre : List (ID32)) (a8 : Option Addr) (n8 : Nat) (c8 : Nat) => ([cl b2 34 [.slice a8 n8 c8], own 32 28 a8 n8 c8 ((pre).map iC)] : List Asn)) [] (none) (0) (0)) qS (exs.in (none) (exs.in (0) (exs.in (0) (pur.in rfl (Ent.refl _))))) ?_
  refine T.rangeFunc (encs := fun x : ID32 => [.agg (x.1.map Y).toArray]) (hI) rfl (by kernel_rfl) (fun _ => rfl) (by decide) (fun x => [(7, .agg (x.1.map Y).toArray)]) (fun _ => rfl) [] (fun (pre : List (ID32)) => exs fun (a8 : Option Addr) => exs fun (n8 : Nat) => exs fun (c8 : Nat) => pur (pre.length = n8) (all [cl b2 34 [.slice a8 n8 c8], own 32 28 a8 n8 c8 ((pre).map iC)]) : List (ID32) → Asn) (.cons (t := 2) rfl <| SubK.nil _) qD qD qS ?_ ?_
  · intro σ1 l1 r1 pre x D1 M1 hok hr1
    refine T.norm2 qA qA ?_
    refine T.exs qP (fun a8 => ?_)
    refine T.exs qP (fun n8 => ?_)
    refine T.exs qP (fun c8 => ?_)
    refine T.pur qP (fun hJ => ?_)
    refine T.unfold _ qP rfl qA ?_
    have hol := hOk pre x hok
    have hx32 := x.2
    refine T.region ?_
    refine L.alloc rfl ze28 (fun b5 => ?_)
    refine L.storeA ag28 rfl rfl qL qO qU qW ?_
    refine L.nil ?_
    refine T.thenN ?_
    refine T.begin hr1.1 qP ?_
    refine T.block ?_
    refine T.region ?_
    refine L.load rfl sc34 rfl qC ?_
    refine L.loadA rfl ag28 rfl qN ?_
    refine L.buildSlice rfl bs34 (by decide) (BP.agg rfl rfl (by first | with_reducible assumption | (simp; done) | (simp only [List.length_map]; with_reducible assumption) | (simp [*]; done) | rfl) (Nat.le_of_ble_eq_true rfl) qR <| BP.doneE (out := []) rfl) (fun b10 => ?_)
    refine L.append1 rfl Try.underlying34 el28 rfl rfl qP qM (by rw [List.append_nil, List.length_map]; exact hx32) (fun u hu => by rw [List.append_nil] at hu; obtain ⟨b, _, rfl⟩ := List.mem_map.1 hu; rfl) qI qI (fun a11 c11 => ?_)
    refine L.store sc34 rfl rfl rfl qU qE ?_
    refine L.nil ?_
    refine T.blkN ?_
    refine T.ownEq _ ((pre ++ [x]).map iC) qP (by rw [List.map_append, List.append_nil]; rfl) ?_
    refine T.mkJ (J := (fun (pre : List (ID32)) => exs fun (a8 : Option Addr) => exs fun (n8 : Nat) => exs fun (c8 : Nat) => pur (pre.length = n8) (all [cl b2 34 [.slice a8 n8 c8], own 32 28 a8 n8 c8 ((pre).map iC)]) : List (ID32) → Asn) (pre ++ [x])) (L := (fun (pre : List (ID32)) (a8 : Option Addr) (n8 : Nat) (c8 : Nat) => ([cl b2 34 [.slice a8 n8 c8], own 32 28 a8 n8 c8 ((pre).map iC)] : List Asn)) (pre ++ [x]) (_) (n8 + 1) (_)) qS (exs.in (_) (exs.in (n8 + 1) (exs.in (_) (pur.in (by rw [List.length_append, hJ]; rfl) (Ent.refl _))))) ?_
    exact T.roundEnd hr1 qP qD qF
  · intro b1 xs hxs
    refine T.exs qP (fun a8 => ?_)
    refine T.exs qP (fun n8 => ?_)
    refine T.exs qP (fun c8 => ?_)
    refine T.pur qP (fun hJ => ?_)
    refine T.unfold _ qP rfl qA ?_
    refine T.blkN ?_
    refine T.thenN ?_
    refine T.seq ?_
    refine T.region ?_
    refine L.load rfl sc34 rfl qC ?_
    refine L.assign rfl rfl ?_
    refine L.nil ?_
    refine T.thenN ?_
    refine T.ret ?_
    refine T.unmark (.inl rfl) qP ?_
    exact T.ret1 rfl rfl ⟨_, _, _, xs, rfl, hxs, hJ, rfl, rfl⟩ qD qF
set_option maxHeartbeats 400000 in
theorem collectIP_spec {f : FuncId} {lb : List Value} {Ok : List ID32 → ID32 → Prop} {φ A0 A1 : Asn} {SS : List ID32 → Prop}  (hI : Iter Try.prog f lb (fun x : ID32 => [.agg (x.1.map Y).toArray]) Ok φ A0 A1 SS) (hOk : ∀ pre x, Ok pre x → pre.length < 1000000000) : Spec Try.prog 33 [fnV f lb] [φ] [A0] (fun v D' M' => ∃ (a' : Option Addr) (n' c' : Nat) (xs : List ID32), v = .slice a' n' c' ∧ (SS xs) ∧ (xs.length = n') ∧ D' = [] ∧ M' = [A1, own 32 28 a' n' c' ((xs).map iC)]) := by
  refine Spec.intro (n := 5) Try.func33 rfl rfl (by decide) (Nat.le_of_ble_eq_true rfl) rfl (fun _ => qA) (fun _ => qA) ?_
  intro σ D M
  refine T.seq ?_
  refine T.region ?_
  refine L.assign rfl rfl ?_
  refine L.nil ?_
  refine T.thenN ?_
  refine T.seq ?_
  refine T.region ?_
  refine L.move rfl rfl ?_
  refine L.call rfl (evs.cons rfl <| evs.cons rfl <| evs.nil) qD qS (appseqIP_spec hI hOk) ?_
  rintro _ _ _ ⟨sa, sn, sc, xs, rfl, hxs, hxl, rfl, rfl⟩
  refine L.norm qA qA ?_
  refine L.assign rfl rfl ?_
  refine L.nil ?_
  refine T.thenN ?_
  refine T.ret ?_
  exact T.ret1 rfl rfl ⟨_, _, _, xs, rfl, hxs, hxl, rfl, rfl⟩ qD qF
set_option maxHeartbeats 400000 in
theorem sortedGP_spec {f : FuncId} {lb : List Value} {Ok : List ID32 → ID32 → Prop} {φ A0 A1 : Asn} {SS : List ID32 → Prop}  (hI : Iter Try.prog f lb (fun x : ID32 => [.agg (x.1.map Y).toArray]) Ok φ A0 A1 SS) (hOk : ∀ pre x, Ok pre x → pre.length < 1000000000) (hSl : ∀ xs, SS xs → xs.length ≤ 60000) : Spec Try.prog 23 [fnV f lb, fnV 20 []] [φ] [A0] (fun v D' M' => ∃ (a' : Option Addr) (n' c' : Nat) (xs us : List ID32), v = .slice a' n' c' ∧ (SS xs) ∧ (us.Perm xs) ∧ (SrtP cfI us 0 us.length) ∧ (us.length = n') ∧ D' = [] ∧ M' = [A1, own 32 28 a' n' c' ((us).map iC)]) := by
  refine Spec.intro (n := 12) Try.func23 rfl rfl (by decide) (Nat.le_of_ble_eq_true rfl) rfl (fun _ => qA) (fun _ => qA) ?_
  intro σ D M
  refine T.seq ?_
  refine T.region ?_
  refine L.assign rfl rfl ?_
  refine L.nil ?_
  refine T.thenN ?_
  refine T.seq ?_
  refine T.region ?_
  refine L.move rfl rfl ?_
  refine L.call rfl (evs.cons rfl <| evs.nil) qD qS (collectIP_spec hI hOk) ?_
  rintro _ _ _ ⟨sa, sn, sc, xs, rfl, hxs, hxl, rfl, rfl⟩
  refine L.norm qA qA ?_
  have hsl := hSl xs hxs
  refine L.assign rfl rfl ?_
  refine L.nil ?_
  refine T.thenN ?_
  refine T.seq ?_
  refine T.region ?_
  refine L.move rfl rfl ?_
  refine L.move rfl rfl ?_
  refine L.call rfl (evs.cons rfl <| evs.cons rfl <| evs.nil) qD qS (sortw_spec (cf := cfI) (xs := xs) cfI_swo cfI_irr (fun x y => ocmp_spec) (by omega)) ?_
  rintro _ _ _ ⟨us, rfl, hp, hs, rfl, rfl⟩
  refine L.norm qA qA ?_
  have hul := hp.length_eq
  refine L.nil ?_
  refine T.thenN ?_
  refine T.seq ?_
  refine T.region ?_
  refine L.move rfl rfl ?_
  refine L.assign rfl rfl ?_
  refine L.nil ?_
  refine T.thenN ?_
  refine T.ret ?_
  exact T.ret1 rfl rfl ⟨_, _, _, xs, us, rfl, hxs, hp, by rw [hul, hxl]; exact hs, by rw [hul, hxl], rfl, rfl⟩ qD qF
set_option maxHeartbeats 400000 in
theorem namesP_spec {b tm : Nat} {ml : ML} (hlen : ml.length ≤ 1000) : Spec Try.prog 12 [.pointer (some ⟨b, 0, none⟩)] [cl b 57 [.map (some tm)]] [mp tm aK rV2 ml, each rA2 ml] (fun v D' M' => ∃ (a' : Option Addr) (n' c' : Nat) (us : List ID32), v = .slice a' n' c' ∧ (KeysF (ml.map Prod.fst) us) ∧ (us.length = n') ∧ D' = [] ∧ M' = [tbA tm (er ml), own 32 28 a' n' c' (us.map iC)]) := by
  refine Spec.intro (n := 9) Try.func12 rfl rfl (by decide) (Nat.le_of_ble_eq_true rfl) rfl (fun _ => qA) (fun _ => qA) ?_
  intro σ D M
  refine T.mpNodup (kenc := aK) (venc := rV2) qM (fun hnd => ?_)
  refine T.seq ?_
  refine T.region ?_
  refine L.assign rfl rfl ?_
  refine L.nil ?_
  refine T.thenN ?_
  refine T.seq ?_
  refine T.region ?_
  refine L.move rfl rfl ?_
  refine L.nilCheck rfl rfl ?_
  first | refine L.field0 rfl fo57_0 rfl ?_ | refine L.field rfl fo57_0 rfl ?_
  refine L.load rfl sc55 rfl qC ?_
  refine L.call rfl (evs.cons rfl <| evs.nil) qD qS (keysfP_spec) ?_
  rintro _ _ _ ⟨kc, rfl, rfl, rfl⟩
  refine L.norm qA qA ?_
  refine L.call rfl (evs.cons rfl <| evs.cons rfl <| evs.nil) qD qS (sortedGP_spec (keys_iterP (ml := ml) (m := tm) (c := kc)) (fun pre x h => by omega) (fun xs h => by have := h.length_eq; rw [List.length_map] at this; omega)) ?_
  rintro _ _ _ ⟨ga, gn, gc, xs, us, rfl, hxs, hup, hus, hun, rfl, rfl⟩
  refine L.norm qA qA ?_
  refine L.assign rfl rfl ?_
  refine L.nil ?_
  refine T.thenN ?_
  refine T.ret ?_
  refine T.tbShut (t := er ml) rfl qS ?_
  exact T.ret1 rfl rfl ⟨_, _, _, us, rfl, keys_of hnd hxs hup hus, hun, rfl, rfl⟩ qD qF
theorem namesG_spec {b tm : Nat} {t : Tb} (h1 : t.length ≤ 1000) : Spec Try.prog 12 [.pointer (some ⟨b, 0, none⟩)] [cl b 57 [.map (some tm)]] [tbA tm t] (fun v D' M' => ∃ (a' : Option Addr) (n' c' : Nat) (us : List ID32), v = .slice a' n' c' ∧ KeysF (t.map Prod.fst) us ∧ us.length = n' ∧ D' = [] ∧ M' = [tbA tm t, own 32 28 a' n' c' (us.map iC)]) :=
  Spec.tb (IsFn.of Try.func12 rfl (by decide)) fun ml hm => by
    subst hm
    rw [er_keys]
    exact namesP_spec (by rw [er_len] at h1; exact h1)
end Cv
