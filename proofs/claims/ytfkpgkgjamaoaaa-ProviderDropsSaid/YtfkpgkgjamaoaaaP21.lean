/-
  The walks: the law of who is dropped.
-/
import Derived.Test.YtfkpgkgjamaoaaaO21
import Derived.Test.YtfkpgkgjamaoaaaProg
import Derived.KernelRfl
set_option linter.unusedVariables false
set_option linter.unusedSimpArgs false
set_option linter.unusedSectionVars false
set_option maxRecDepth 10000
namespace Cv
open Go Go.Proofs
/-! ## who is dropped -/
theorem del_keys {κ ν μ : Type} [DecidableEq κ] {k : κ} : ∀ {l : List (κ × ν)} {m : List (κ × μ)}, l.map Prod.fst = m.map Prod.fst → (del l k).map Prod.fst = (del m k).map Prod.fst
  | [], [], _ => rfl
  | (a, x) :: l, (b, y) :: m, h => by
    simp only [List.map_cons, List.cons.injEq] at h
    obtain ⟨rfl, h⟩ := h
    simp only [del]
    split
    · exact h
    · simp only [List.map_cons, del_keys h]
  | [], _ :: _, h => by simp at h
  | _ :: _, [], h => by simp at h
theorem delL_keys {xs : List Int} : ∀ {l m : Row21}, l.map Prod.fst = m.map Prod.fst → (delL l xs).map Prod.fst = (delL m xs).map Prod.fst := by
  induction xs with
  | nil => intro l m h; exact h
  | cons x xs ih => intro l m h; exact ih (del_keys h)
theorem del_sub {κ ν : Type} [DecidableEq κ] {k : κ} {p : κ × ν} : ∀ {l : List (κ × ν)}, p ∈ del l k → p ∈ l
  | [], h => h
  | (a, x) :: l, h => by
    simp only [del] at h
    split at h
    · exact List.mem_cons_of_mem _ h
    · rcases List.mem_cons.1 h with e | e
      · exact e ▸ List.mem_cons_self ..
      · exact List.mem_cons_of_mem _ (del_sub e)
theorem delL_sub {p : Int × Int} {xs : List Int} : ∀ {l : Row21}, p ∈ delL l xs → p ∈ l := by
  induction xs with
  | nil => intro l h; exact h
  | cons x xs ih => intro l h; exact del_sub (ih h)
/-- the row and the counts that go with it -/
structure DI (i : Nat) (row lm : Row21) : Prop where
  keys : row.map Prod.fst = lm.map Prod.fst
  v10 : ∀ p ∈ row, p.2 = 10
  v1 : ∀ p ∈ lm, 1 ≤ p.2 ∧ p.2 ≤ i
  len : row.length ≤ i
theorem DI.zero : DI 0 [] [] := ⟨rfl, fun p h => (by cases h), fun p h => (by cases h), Nat.le_refl _⟩
theorem put_mem {l : Row21} {k v : Int} {p : Int × Int} (h : p ∈ put l k v) : p ∈ l ∨ p = (k, v) := by
  induction l with
  | nil => simp [put] at h; exact .inr h
  | cons q l ih =>
    obtain ⟨a, x⟩ := q
    simp only [put] at h
    split at h
    · rcases List.mem_cons.1 h with e | e
      · exact .inr e
      · exact .inl (List.mem_cons_of_mem _ e)
    · rcases List.mem_cons.1 h with e | e
      · exact .inl (e ▸ List.mem_cons_self ..)
      · rcases ih e with q | q
        · exact .inl (List.mem_cons_of_mem _ q)
        · exact .inr q
theorem put_len21 {l : Row21} {k v : Int} : (put l k v).length ≤ l.length + 1 := by
  have := congrArg List.length (keys_put (l := l) (k := k) (v := v))
  rw [List.length_map] at this
  rw [this]
  split <;> simp
theorem DI.get {i : Nat} {row lm : Row21} (h : DI i row lm) (n : Int) : 0 ≤ (look lm n).getD 0 ∧ (look lm n).getD 0 ≤ i := by
  cases e : look lm n with
  | none => simp
  | some v => have := h.v1 _ (mem_of_look e); simp; omega
theorem DI.step {i : Nat} {row lm : Row21} (h : DI i row lm) (n : Int) : DI (i + 1) (putR row n 10) (put lm n ((look lm n).getD 0 + 1)) where
  keys := by unfold putR; rw [keys_put, keys_put, h.keys]
  v10 p hp := by
    unfold putR at hp
    rcases put_mem hp with e | e
    · exact h.v10 p e
    · rw [e]
      cases e2 : look row n with
      | none => rfl
      | some v => have := h.v10 _ (mem_of_look e2); simp at this; subst this; rfl
  v1 p hp := by
    rcases put_mem hp with e | e
    · have := h.v1 p e; omega
    · rw [e]; have := h.get n; simp; omega
  len := by
    have := @put_len21 row n (max ((look row n).getD 0) 10)
    have := h.len
    unfold putR; omega
theorem getF_all {row : Row21} {xs : List Int} (h : ∀ p ∈ row, p.2 = 10) (hn : (row.map Prod.fst).Nodup) (hp : xs.Perm (row.map Prod.fst)) : getF row 9 (xs.mergeSort fun x y => decide (x ≤ y)) = xs.mergeSort fun x y => decide (x ≤ y) := by
  unfold getF
  refine List.filter_eq_self.2 fun n hm => ?_
  have hk := hp.mem_iff.1 ((List.mergeSort_perm xs _).mem_iff.1 hm)
  obtain ⟨p, hp, rfl⟩ := List.mem_map.1 hk
  rw [look_of_mem hn (k := p.1) (v := p.2) hp]
  simp [h p hp]
theorem put_nd {l : Row21} {k v : Int} (h : (l.map Prod.fst).Nodup) : ((put l k v).map Prod.fst).Nodup := nodup_put h
theorem delL_nd {xs : List Int} : ∀ {l : Row21}, (l.map Prod.fst).Nodup → ((delL l xs).map Prod.fst).Nodup := by
  induction xs with
  | nil => intro l h; exact h
  | cons x xs ih => intro l h; exact ih (nodup_del h)
theorem drop_fin {i : Nat} {row lm : Row21} {gs xs : List Int} {n : Nat} (h : DI i row lm) (hnd : ((delL lm gs).map Prod.fst).Nodup) (hp : xs.Perm ((delL row gs).map Prod.fst)) (hn : (getF (delL row gs) 9 (xs.mergeSort fun x y => decide (x ≤ y))).length = n) :
    getF (delL row gs) 9 (xs.mergeSort fun x y => decide (x ≤ y)) = (xs.mergeSort fun x y => decide (x ≤ y)) ∧ n = (delL lm gs).length ∧ (delL row gs).length = (delL lm gs).length ∧ ∀ k ∈ (xs.mergeSort fun x y => decide (x ≤ y)), (look (delL lm gs) k).getD 0 ≠ 0 := by
  have hk := delL_keys (xs := gs) h.keys
  have hg := getF_all (row := delL row gs) (xs := xs) (fun p hp => h.v10 p (delL_sub hp)) (by rw [hk]; exact hnd) hp
  have hl := congrArg List.length hk
  rw [List.length_map, List.length_map] at hl
  rw [hg, List.length_mergeSort] at hn
  have hpl := hp.length_eq
  rw [List.length_map] at hpl
  refine ⟨hg, by omega, hl, fun k hm e => ?_⟩
  have hk2 := hp.mem_iff.1 ((List.mergeSort_perm xs _).mem_iff.1 hm)
  rw [hk] at hk2
  obtain ⟨p, hp, rfl⟩ := List.mem_map.1 hk2
  rw [look_of_mem hnd (k := p.1) (v := p.2) hp] at e
  have := h.v1 p (delL_sub hp)
  simp at e; omega
theorem k12 : k1 ≠ k2 := by decide
theorem getF_nil {now : Int} {xs : List Int} {n : Nat} (hp : xs.Perm ((([] : Row21)).map Prod.fst)) (hn : (getF [] now (xs.mergeSort fun x y => decide (x ≤ y))).length = n) : n = 0 := by
  have : xs = [] := hp.eq_nil
  subst this
  rw [← hn]; simp [getF]

set_option maxHeartbeats 1000000 in
theorem drops_law (a0 : Option Addr) (len0 cap0 : Nat) (xs0 : List Int) (hx0 : xs0.length = len0) (hg0 : ∀ x ∈ xs0, g3 x) (hb0 : len0 ≤ 4611686018427387904) (a1 : Option Addr) (len1 cap1 : Nat) (xs1 : List Int) (hx1 : xs1.length = len1) (hg1 : ∀ x ∈ xs1, g3 x) (hb1 : len1 ≤ 4611686018427387904)  : Spec Try.prog 4 [.slice a0 len0 cap0, .slice a1 len1 cap1] [rsl 1 a0 len0 cap0 (xs0.map e3), rsl 1 a1 len1 cap1 (xs1.map e3)] [] (fun v D' M' => v = .bool true ∧ D' = [] ∧ M' = []) := by
  refine Spec.intro (n := 100) Try.func4 rfl rfl (by decide) (Nat.le_of_ble_eq_true rfl) rfl (fun _ => qA) (fun _ => qA) ?_
  intro σ D M
  refine T.rslLen2 (rows := xs1.map e3) qM (fun hxl hxc => ?_)
  refine T.seq ?_
  refine T.region ?_
  refine L.assign rfl rfl ?_
  refine L.nil ?_
  refine T.thenN ?_
  refine T.seq ?_
  refine T.seq ?_
  refine T.region ?_
  refine L.call rfl (evs.nil) qD qS (awake_spec) ?_
  rintro _ _ _ ⟨rfl, rfl, rfl⟩
  refine L.norm qA qA ?_
  refine L.notB rfl rfl ?_
  refine L.nil ?_
  refine T.thenN ?_
  refine T.condF rfl rfl ?_
  refine T.skip ?_
  refine T.thenN ?_
  refine T.seq ?_
  refine T.region ?_
  refine L.call rfl (evs.nil) qD qS (pnew_spec) ?_
  rintro _ _ _ ⟨sb, sm, rfl, rfl, rfl⟩
  refine L.norm qA qA ?_
  refine L.eqv qP (show tbA sm [] = tbA sm (tabF k1 []) from rfl) ?_
  refine L.assign rfl rfl ?_
  refine L.nil ?_
  refine T.thenN ?_
  refine T.seq ?_
  refine T.region ?_
  refine L.makeMap iK iK rfl (fun ib => ?_)
  refine L.assign rfl rfl ?_
  refine L.nil ?_
  refine T.thenN ?_
  refine T.seq ?_
  refine T.seq ?_
  refine T.region ?_
  refine L.assign rfl rfl ?_
  refine L.nil ?_
  refine T.thenN ?_
  refine T.block ?_
  refine T.loop (fun K' D' M' μ => ∃ (i : Nat) (row lm : Row21), ((i ≤ len0 ∧ i ≤ 8) ∧ DI i row lm) ∧ K' = [(7, .int .i64 i)] ∧ D' = [] ∧ M' = [tbA sm (tabF k1 row), mp ib iK iK lm] ∧ μ = 8 - i) (.cons (t := 0) rfl <| .cons (t := 1) rfl <| .cons (t := 5) rfl <| .cons (t := 6) rfl <| SubK.nil _) (⟨0, [], [], ⟨by omega, DI.zero⟩, rfl, rfl, rfl, rfl⟩) (.cons (t := 7) rfl <| SubK.nil _) qD qS ?_
  rintro K1 D1 M1 m1 ⟨i, row, lm, ⟨⟨hi1, hi2⟩, hI⟩, rfl, rfl, rfl, rfl⟩
  refine T.norm3 qA qA qA ?_
  refine T.seq ?_
  refine T.seq ?_
  refine T.cutC (fun K' D' M' => ∃ (w : Bool), (w = true ↔ (i < len0 ∧ i < 8)) ∧ K' = [(24, .bool w)] ∧ D' = [] ∧ M' = []) (M0 := []) (.cons (t := 0) rfl <| .cons (t := 1) rfl <| .cons (t := 5) rfl <| .cons (t := 6) rfl <| .cons (t := 7) rfl <| SubK.nil _) qS ?_ ?_
  · skip
    refine T.region ?_
    refine L.move rfl rfl ?_
    refine L.move rfl rfl ?_
    refine L.lenSl rfl Try.underlying29 rfl ?_
    refine L.ltI rfl rfl rfl ?_
    refine L.move rfl rfl ?_
    refine L.part (t := 21) rfl (fun h1 => ?_) (fun h1 => ?_)
    · try simp only [decide_eq_true_eq, decide_eq_false_iff_not, Bool.not_eq_true', Bool.not_eq_false', Bool.and_eq_true, Bool.or_eq_true] at h1
      refine L.guardT (dj := 21) rfl rfl rfl ?_
      refine L.move rfl rfl ?_
      refine L.guardT (dj := 21) rfl rfl rfl ?_
      refine L.ltI rfl rfl rfl ?_
      refine L.pickT rfl rfl rfl ?_
      refine L.nil ?_
      refine T.thenN ?_
      exact T.toJoin ⟨_, (by simp; omega), rfl, rfl, rfl⟩ (.cons (t := 24) rfl <| SubK.nil _) (.cons (t := 0) rfl <| .cons (t := 1) rfl <| .cons (t := 5) rfl <| .cons (t := 6) rfl <| .cons (t := 7) rfl <| SubK.nil _) qD qD qF
    · try simp only [decide_eq_true_eq, decide_eq_false_iff_not, Bool.not_eq_true', Bool.not_eq_false', Bool.and_eq_true, Bool.or_eq_true] at h1
      refine L.guardF (dj := 21) (c := false) rfl rfl rfl rfl rfl (by decide) ?_
      refine L.guardF (dj := 21) (c := false) rfl rfl rfl rfl rfl (by decide) ?_
      refine L.pickF rfl rfl rfl ?_
      refine L.nil ?_
      refine T.thenN ?_
      exact T.toJoin ⟨_, (by simp; omega), rfl, rfl, rfl⟩ (.cons (t := 24) rfl <| SubK.nil _) (.cons (t := 0) rfl <| .cons (t := 1) rfl <| .cons (t := 5) rfl <| .cons (t := 6) rfl <| .cons (t := 7) rfl <| SubK.nil _) qD qD qF
  rintro _ _ _ ⟨w, hw, rfl, rfl, rfl⟩
  refine T.norm3 qA qA qA ?_
  refine T.thenN ?_
  refine T.cond rfl (fun h24 => ?_) (fun h24 => ?_)
  · try simp only [decide_eq_true_eq, decide_eq_false_iff_not, Bool.not_eq_true', Bool.not_eq_false', Bool.and_eq_true, Bool.or_eq_true] at h24
    have hwt := hw.1 h24
    refine T.skip ?_
    refine T.thenN ?_
    refine T.seq ?_
    refine T.block ?_
    refine T.seq ?_
    have hgi : xs0[i]? = some (gd xs0 i) := gd_get (by omega)
    refine T.region ?_
    refine L.move rfl rfl ?_
    refine L.move rfl rfl ?_
    refine L.idx (i := i) rfl Try.underlying29 sz3 rfl rfl qM (by first | rfl | omega | (simp; done)) qG (fun b29 o29 => ?_)
    refine L.load rfl sc3 rfl qC ?_
    refine L.andM rfl rfl rfl (k := 6) (by decide) (by decide) ?_
    refine L.assign rfl rfl ?_
    refine L.nil ?_
    obtain ⟨n, hn, hn64⟩ : ∃ n : Int, gd xs0 i % (63 + 1) = n ∧ 0 ≤ n ∧ n < 64 := ⟨_, rfl, by omega, by omega⟩
    rw [hn]
    refine T.thenN ?_
    refine T.seq ?_
    have hgn := hI.get n
    refine T.region ?_
    refine L.move rfl rfl ?_
    refine L.move rfl rfl ?_
    refine L.lookup1 (kenc := iK) (venc := iK) (b := ib) (l := lm) (k := n) rfl Try.underlying32 kt3 zv3 rfl rfl qM ?_
    refine L.known (t := 34) (u := .int .i64 ((look (lm) n).getD 0)) rfl (by cases look (lm) n <;> rfl) ?_
    refine L.addN rfl rfl rfl (by omega) ?_
    refine L.mapUpdate (kenc := iK) (venc := iK) (l := lm) (k := n) (v := (look lm n).getD 0 + 1) Try.underlying32 kt3 rfl rfl rfl rfl qP ?_
    refine L.nil ?_
    refine T.thenN ?_
    refine T.seq ?_
    refine T.region ?_
    refine L.move rfl rfl ?_
    refine L.build rfl bua28 (BP.one rfl rfl rfl <| BP.doneE (out := (Value.int .u8 0 :: Value.int .u8 0 :: Value.int .u8 0 :: Value.int .u8 0 :: Value.int .u8 0 :: Value.int .u8 0 :: Value.int .u8 0 :: Value.int .u8 0 :: Value.int .u8 0 :: Value.int .u8 0 :: Value.int .u8 0 :: Value.int .u8 0 :: Value.int .u8 0 :: Value.int .u8 0 :: Value.int .u8 0 :: Value.int .u8 0 :: Value.int .u8 0 :: Value.int .u8 0 :: Value.int .u8 0 :: Value.int .u8 0 :: Value.int .u8 0 :: Value.int .u8 0 :: Value.int .u8 0 :: Value.int .u8 0 :: Value.int .u8 0 :: Value.int .u8 0 :: Value.int .u8 0 :: Value.int .u8 0 :: Value.int .u8 0 :: Value.int .u8 0 :: Value.int .u8 0 :: [])) rfl) ?_
    refine L.known (t := 37) (u := .agg (k1.1.map Y).toArray) rfl (by rfl) ?_
    refine L.move rfl rfl ?_
    refine L.call rfl (evs.cons rfl <| evs.cons rfl <| evs.cons rfl <| evs.cons rfl <| evs.nil) qD qS (put_spec (b := sb) (tm := sm) (t := tabF k1 row) (k := k1) (a := n) (u := 10) (by have := @tab_le k1 row; omega) (fun r hr => by rw [tab_look hr]; have := hI.len; omega)) ?_
    rintro _ _ _ ⟨rfl, rfl, rfl⟩
    refine L.norm qA qA ?_
    obtain ⟨he, ht⟩ := tab_put (k := k1) (row := row) (a := n) (u := 10) hn64 (by right; have := hI.len; omega)
    rw [he, ht]
    refine L.neI rfl rfl rfl ?_
    refine L.nil ?_
    refine T.thenN ?_
    refine T.condF rfl (decide_eq_false (fun e => e rfl)) ?_
    refine T.skip ?_
    refine T.blkN ?_
    refine T.thenN ?_
    refine T.region ?_
    refine L.move rfl rfl ?_
    refine L.addN rfl rfl rfl (by omega) ?_
    refine L.assign rfl rfl ?_
    refine L.nil ?_
    refine T.thenN ?_
    exact T.back ⟨i + 1, putR row n 10, put lm n ((look lm n).getD 0 + 1), ⟨by omega, hI.step n⟩, rfl, rfl, rfl, rfl⟩ qI (.cons (t := 7) rfl <| SubK.nil _) (.cons (t := 0) rfl <| .cons (t := 1) rfl <| .cons (t := 5) rfl <| .cons (t := 6) rfl <| SubK.nil _) qD qD qF
  · try simp only [decide_eq_true_eq, decide_eq_false_iff_not, Bool.not_eq_true', Bool.not_eq_false', Bool.and_eq_true, Bool.or_eq_true] at h24
    have hwf : ¬ (i < len0 ∧ i < 8) := fun e => by have := hw.2 e; rw [h24] at this; cases this
    refine T.exit ?_
    refine T.thenX ?_
    refine T.thenX ?_
    refine T.blkX ?_
    refine T.thenN ?_
    refine T.seq ?_
    refine T.seq ?_
    refine T.region ?_
    refine L.assign rfl rfl ?_
    refine L.nil ?_
    refine T.thenN ?_
    refine T.block ?_
    refine T.eqv qP (show mp ib iK iK lm = mp ib iK iK (delL lm (xs1.take 0)) from by rw [List.take_zero]; rfl) ?_
    refine T.loop (fun K' D' M' μ => ∃ (i : Nat), (i ≤ len1 ∧ i ≤ 10) ∧ K' = [(9, .int .i64 i)] ∧ D' = [] ∧ M' = [mp ib iK iK (delL lm (xs1.take i))] ∧ μ = 10 - i) (.cons (t := 1) rfl <| .cons (t := 5) rfl <| .cons (t := 6) rfl <| SubK.nil _) (⟨0, ⟨by omega, by omega⟩, rfl, rfl, rfl, rfl⟩) (.cons (t := 9) rfl <| SubK.nil _) qD qS ?_
    rintro K1 D1 M1 m1 ⟨i, ⟨hj1, hj2⟩, rfl, rfl, rfl, rfl⟩
    refine T.norm3 qA qA qA ?_
    refine T.seq ?_
    refine T.seq ?_
    refine T.cutC (fun K' D' M' => ∃ (w : Bool), (w = true ↔ (i < len1 ∧ i < 10)) ∧ K' = [(48, .bool w)] ∧ D' = [] ∧ M' = []) (M0 := []) (.cons (t := 1) rfl <| .cons (t := 5) rfl <| .cons (t := 6) rfl <| .cons (t := 9) rfl <| SubK.nil _) qS ?_ ?_
    · skip
      refine T.region ?_
      refine L.move rfl rfl ?_
      refine L.move rfl rfl ?_
      refine L.lenSl rfl Try.underlying29 rfl ?_
      refine L.ltI rfl rfl rfl ?_
      refine L.move rfl rfl ?_
      refine L.part (t := 45) rfl (fun h2 => ?_) (fun h2 => ?_)
      · try simp only [decide_eq_true_eq, decide_eq_false_iff_not, Bool.not_eq_true', Bool.not_eq_false', Bool.and_eq_true, Bool.or_eq_true] at h2
        refine L.guardT (dj := 45) rfl rfl rfl ?_
        refine L.move rfl rfl ?_
        refine L.guardT (dj := 45) rfl rfl rfl ?_
        refine L.ltI rfl rfl rfl ?_
        refine L.pickT rfl rfl rfl ?_
        refine L.nil ?_
        refine T.thenN ?_
        exact T.toJoin ⟨_, (by simp; omega), rfl, rfl, rfl⟩ (.cons (t := 48) rfl <| SubK.nil _) (.cons (t := 1) rfl <| .cons (t := 5) rfl <| .cons (t := 6) rfl <| .cons (t := 9) rfl <| SubK.nil _) qD qD qF
      · try simp only [decide_eq_true_eq, decide_eq_false_iff_not, Bool.not_eq_true', Bool.not_eq_false', Bool.and_eq_true, Bool.or_eq_true] at h2
        refine L.guardF (dj := 45) (c := false) rfl rfl rfl rfl rfl (by decide) ?_
        refine L.guardF (dj := 45) (c := false) rfl rfl rfl rfl rfl (by decide) ?_
        refine L.pickF rfl rfl rfl ?_
        refine L.nil ?_
        refine T.thenN ?_
        exact T.toJoin ⟨_, (by simp; omega), rfl, rfl, rfl⟩ (.cons (t := 48) rfl <| SubK.nil _) (.cons (t := 1) rfl <| .cons (t := 5) rfl <| .cons (t := 6) rfl <| .cons (t := 9) rfl <| SubK.nil _) qD qD qF
    rintro _ _ _ ⟨w, hw, rfl, rfl, rfl⟩
    refine T.norm3 qA qA qA ?_
    refine T.thenN ?_
    refine T.cond rfl (fun h48 => ?_) (fun h48 => ?_)
    · try simp only [decide_eq_true_eq, decide_eq_false_iff_not, Bool.not_eq_true', Bool.not_eq_false', Bool.and_eq_true, Bool.or_eq_true] at h48
      have hwt := hw.1 h48
      refine T.skip ?_
      refine T.thenN ?_
      refine T.seq ?_
      refine T.block ?_
      have hgi : xs1[i]? = some (gd xs1 i) := gd_get (by omega)
      obtain ⟨n, hn⟩ : ∃ x, x = gd xs1 i := ⟨_, rfl⟩
      rw [← hn] at hgi
      refine T.region ?_
      refine L.move rfl rfl ?_
      refine L.move rfl rfl ?_
      refine L.move rfl rfl ?_
      refine L.idx (i := i) rfl Try.underlying29 sz3 rfl rfl qM (by first | rfl | omega | (simp; done)) qG (fun b54 o54 => ?_)
      refine L.load rfl sc3 rfl qC ?_
      refine L.delete (kenc := iK) (venc := iK) (l := delL lm (xs1.take i)) (k := n) Try.underlying32 kt3 rfl rfl qP ?_
      refine L.nil ?_
      refine T.blkN ?_
      refine T.thenN ?_
      refine T.region ?_
      refine L.move rfl rfl ?_
      refine L.addN rfl rfl rfl (by omega) ?_
      refine L.assign rfl rfl ?_
      refine L.nil ?_
      refine T.thenN ?_
      refine T.eqv qP (show mp ib iK iK (del (delL lm (xs1.take i)) n) = mp ib iK iK (delL lm (xs1.take (i + 1))) from by rw [delL_take hgi]) ?_
      exact T.back ⟨i + 1, ⟨by omega, by omega⟩, rfl, rfl, rfl, rfl⟩ qI (.cons (t := 9) rfl <| SubK.nil _) (.cons (t := 1) rfl <| .cons (t := 5) rfl <| .cons (t := 6) rfl <| SubK.nil _) qD qD qF
    · try simp only [decide_eq_true_eq, decide_eq_false_iff_not, Bool.not_eq_true', Bool.not_eq_false', Bool.and_eq_true, Bool.or_eq_true] at h48
      have hwf : ¬ (i < len1 ∧ i < 10) := fun e => by have := hw.2 e; rw [h48] at this; cases this
      refine T.exit ?_
      refine T.thenX ?_
      refine T.thenX ?_
      refine T.blkX ?_
      refine T.thenN ?_
      refine T.seq ?_
      refine T.seq ?_
      obtain ⟨gs, hgs⟩ : ∃ gs, gs = xs1.take 10 := ⟨_, rfl⟩
      have hti : xs1.take i = gs := by rw [hgs]; rcases Nat.le_total 10 len1 with e | e
                                       · rw [show i = 10 by omega]
                                       · rw [List.take_of_length_le (by omega), List.take_of_length_le (by omega)]
      rw [hti]
      refine T.region ?_
      refine L.move rfl rfl ?_
      refine L.lenSl rfl Try.underlying29 rfl ?_
      refine L.gtI rfl rfl rfl ?_
      refine L.nil ?_
      refine T.thenN ?_
      refine T.cutC (fun K' D' M' => ∃ (n1 c1 : Nat), (n1 ≤ 10) ∧ K' = [(1, .slice a1 n1 c1)] ∧ D' = [rsl 1 a1 n1 c1 (gs.map e3)] ∧ M' = []) (M0 := []) (.cons (t := 5) rfl <| .cons (t := 6) rfl <| SubK.nil _) qS ?_ ?_
      · skip
        refine T.cond rfl (fun h58 => ?_) (fun h58 => ?_)
        · try simp only [decide_eq_true_eq, decide_eq_false_iff_not, Bool.not_eq_true', Bool.not_eq_false', Bool.and_eq_true, Bool.or_eq_true] at h58
          refine T.derive (φ := rsl 1 a1 len1 cap1 (xs1.map e3)) (ψ := rsl 1 a1 10 cap1 (gs.map e3)) qM (fun z H => by rw [hgs, List.map_take]; exact rsl_to (by omega) H) ?_
          refine T.region ?_
          refine L.move rfl rfl ?_
          refine L.sliceTo rfl Try.underlying29 sz3 rfl (Bd.at (x := 10) rfl (by first | rfl | omega | (simp; done))) qI ?_
          refine L.assign rfl rfl ?_
          refine L.nil ?_
          refine T.thenN ?_
          exact T.toJoin ⟨_, _, (by omega), rfl, rfl, rfl⟩ (.cons (t := 1) rfl <| SubK.nil _) (.cons (t := 5) rfl <| .cons (t := 6) rfl <| SubK.nil _) qD qD qF
        · try simp only [decide_eq_true_eq, decide_eq_false_iff_not, Bool.not_eq_true', Bool.not_eq_false', Bool.and_eq_true, Bool.or_eq_true] at h58
          refine T.derive (φ := rsl 1 a1 len1 cap1 (xs1.map e3)) (ψ := rsl 1 a1 len1 cap1 (gs.map e3)) qM (fun z H => by rw [hgs, List.take_of_length_le (by omega)]; exact H) ?_
          refine T.skip ?_
          refine T.thenN ?_
          exact T.toJoin ⟨_, _, (by omega), rfl, rfl, rfl⟩ (.cons (t := 1) rfl <| SubK.nil _) (.cons (t := 5) rfl <| .cons (t := 6) rfl <| SubK.nil _) qD qD qF
      rintro _ _ _ ⟨n1, c1, hn1, rfl, rfl, rfl⟩
      refine T.norm3 qA qA qA ?_
      refine T.thenN ?_
      refine T.seq ?_
      refine T.region ?_
      refine L.move rfl rfl ?_
      refine L.build rfl bua28 (BP.one rfl rfl rfl <| BP.doneE (out := (Value.int .u8 0 :: Value.int .u8 0 :: Value.int .u8 0 :: Value.int .u8 0 :: Value.int .u8 0 :: Value.int .u8 0 :: Value.int .u8 0 :: Value.int .u8 0 :: Value.int .u8 0 :: Value.int .u8 0 :: Value.int .u8 0 :: Value.int .u8 0 :: Value.int .u8 0 :: Value.int .u8 0 :: Value.int .u8 0 :: Value.int .u8 0 :: Value.int .u8 0 :: Value.int .u8 0 :: Value.int .u8 0 :: Value.int .u8 0 :: Value.int .u8 0 :: Value.int .u8 0 :: Value.int .u8 0 :: Value.int .u8 0 :: Value.int .u8 0 :: Value.int .u8 0 :: Value.int .u8 0 :: Value.int .u8 0 :: Value.int .u8 0 :: Value.int .u8 0 :: Value.int .u8 0 :: [])) rfl) ?_
      refine L.known (t := 62) (u := .agg (k1.1.map Y).toArray) rfl (by rfl) ?_
      refine L.move rfl rfl ?_
      refine L.call rfl (evs.cons rfl <| evs.cons rfl <| evs.cons rfl <| evs.nil) qD qS (drop_spec (b := sb) (tm := sm) (t := tabF k1 row) (k := k1) (xs := gs) (by have := @tab_le k1 row; omega) (fun r hr => by rw [tab_look hr]; have := hI.len; omega) (by omega)) ?_
      rintro _ _ _ ⟨rfl, rfl, rfl⟩
      refine L.norm qA qA ?_
      rw [tab_drop]
      refine L.nil ?_
      refine T.thenN ?_
      refine T.seq ?_
      refine T.region ?_
      refine L.move rfl rfl ?_
      refine L.build rfl bua28 (BP.one rfl rfl rfl <| BP.doneE (out := (Value.int .u8 0 :: Value.int .u8 0 :: Value.int .u8 0 :: Value.int .u8 0 :: Value.int .u8 0 :: Value.int .u8 0 :: Value.int .u8 0 :: Value.int .u8 0 :: Value.int .u8 0 :: Value.int .u8 0 :: Value.int .u8 0 :: Value.int .u8 0 :: Value.int .u8 0 :: Value.int .u8 0 :: Value.int .u8 0 :: Value.int .u8 0 :: Value.int .u8 0 :: Value.int .u8 0 :: Value.int .u8 0 :: Value.int .u8 0 :: Value.int .u8 0 :: Value.int .u8 0 :: Value.int .u8 0 :: Value.int .u8 0 :: Value.int .u8 0 :: Value.int .u8 0 :: Value.int .u8 0 :: Value.int .u8 0 :: Value.int .u8 0 :: Value.int .u8 0 :: Value.int .u8 0 :: [])) rfl) ?_
      refine L.known (t := 66) (u := .agg (k1.1.map Y).toArray) rfl (by rfl) ?_
      refine L.call rfl (evs.cons rfl <| evs.cons rfl <| evs.cons rfl <| evs.nil) qD qS (get_spec (b := sb) (tm := sm) (t := tabF k1 (delL row gs)) (k := k1) (now := 9) (by have := @tab_le k1 (delL row gs); omega) (fun r hr => by rw [tab_look hr]; have := @delL_len gs row; have := hI.len; omega)) ?_
      rintro _ _ _ ⟨pa, pn, pc, xs, rfl, hpp, hpn, rfl, rfl⟩
      refine L.norm qA qA ?_
      rw [tab_row] at hpp hpn ⊢
      refine L.assign rfl rfl ?_
      refine L.nil ?_
      refine T.thenN ?_
      refine T.seq ?_
      refine T.seq ?_
      refine T.mpNodup (kenc := iK) (venc := iK) (b := ib) qM (fun hnd => ?_)
      obtain ⟨hg9, hpl, hrl, hnz⟩ := drop_fin hI hnd hpp hpn
      have hpn8 : pn ≤ 8 := by have := @delL_len gs row; have := hI.len; omega
      rw [hg9]
      have hsl : (xs.mergeSort fun x y => decide (x ≤ y)).length = pn := by rw [← hpn, hg9]
      refine T.ownRsl (rows := (xs.mergeSort fun x y => decide (x ≤ y)).map e3) qP ?_
      refine T.region ?_
      refine L.move rfl rfl ?_
      refine L.lenSl rfl Try.underlying29 rfl ?_
      refine L.move rfl rfl ?_
      refine L.nil ?_
      refine T.thenN ?_
      refine T.block ?_
      refine T.loop (fun K' D' M' μ => ∃ (j : Nat), (j ≤ pn) ∧ K' = [(70, .int .i64 j)] ∧ D' = [] ∧ M' = [] ∧ μ = pn - j) (.cons (t := 5) rfl <| .cons (t := 6) rfl <| .cons (t := 10) rfl <| .cons (t := 68) rfl <| .cons (t := 69) rfl <| SubK.nil _) (⟨0, Nat.zero_le _, rfl, rfl, rfl, rfl⟩) (.cons (t := 70) rfl <| SubK.nil _) qD qS ?_
      rintro K1 D1 M1 m1 ⟨j, hj, rfl, rfl, rfl, rfl⟩
      refine T.norm3 qA qA qA ?_
      refine T.seq ?_
      refine T.region ?_
      refine L.ltI rfl rfl rfl ?_
      refine L.nil ?_
      refine T.thenN ?_
      refine T.seq ?_
      refine T.cond rfl (fun h71 => ?_) (fun h71 => ?_)
      · try simp only [decide_eq_true_eq, decide_eq_false_iff_not, Bool.not_eq_true', Bool.not_eq_false', Bool.and_eq_true, Bool.or_eq_true] at h71
        refine T.skip ?_
        refine T.thenN ?_
        refine T.seq ?_
        refine T.block ?_
        refine T.seq ?_
        have hgj : (xs.mergeSort fun x y => decide (x ≤ y))[j]? = some (gd (xs.mergeSort fun x y => decide (x ≤ y)) j) := gd_get (by omega)
        obtain ⟨n, hn⟩ : ∃ x, x = gd (xs.mergeSort fun x y => decide (x ≤ y)) j := ⟨_, rfl⟩
        rw [← hn] at hgj
        have hne := hnz n (List.mem_of_getElem? hgj)
        refine T.region ?_
        refine L.idx (i := j) rfl Try.underlying29 sz3 rfl rfl qM (by first | rfl | omega | (simp; done)) qG (fun b72 o72 => ?_)
        refine L.load rfl sc3 rfl qC ?_
        refine L.assign rfl rfl ?_
        refine L.nil ?_
        refine T.thenN ?_
        refine T.seq ?_
        refine T.region ?_
        refine L.move rfl rfl ?_
        refine L.move rfl rfl ?_
        refine L.lookup1 (kenc := iK) (venc := iK) (b := ib) (l := delL lm gs) (k := n) rfl Try.underlying32 kt3 zv3 rfl rfl qM ?_
        refine L.known (t := 76) (u := .int .i64 ((look (delL lm gs) n).getD 0)) rfl (by cases look (delL lm gs) n <;> rfl) ?_
        refine L.eqI rfl rfl rfl ?_
        refine L.nil ?_
        refine T.thenN ?_
        refine T.condF rfl (decide_eq_false hne) ?_
        refine T.skip ?_
        refine T.blkN ?_
        refine T.thenN ?_
        refine T.region ?_
        refine L.addN rfl rfl rfl (by omega) ?_
        refine L.move rfl rfl ?_
        refine L.nil ?_
        refine T.thenN ?_
        exact T.back ⟨j + 1, (by omega), rfl, rfl, rfl, rfl⟩ qI (.cons (t := 70) rfl <| SubK.nil _) (.cons (t := 5) rfl <| .cons (t := 6) rfl <| .cons (t := 10) rfl <| .cons (t := 68) rfl <| .cons (t := 69) rfl <| SubK.nil _) qD qD qF
      · try simp only [decide_eq_true_eq, decide_eq_false_iff_not, Bool.not_eq_true', Bool.not_eq_false', Bool.and_eq_true, Bool.or_eq_true] at h71
        refine T.exit ?_
        refine T.thenX ?_
        refine T.thenX ?_
        refine T.blkX ?_
        refine T.thenN ?_
        refine T.seq ?_
        refine T.region ?_
        refine L.move rfl rfl ?_
        refine L.lenSl rfl Try.underlying29 rfl ?_
        refine L.move rfl rfl ?_
        refine L.lenMap (l := delL lm gs) rfl Try.underlying32 rfl qM ?_
        refine L.eqI rfl rfl rfl ?_
        refine L.move rfl rfl ?_
        refine L.known (t := 84) rfl (show _ = Value.bool true from congrArg Value.bool (decide_eq_true (by omega))) ?_
        refine L.guardT (dj := 84) rfl rfl rfl ?_
        refine L.move rfl rfl ?_
        refine L.guardT (dj := 84) rfl rfl rfl ?_
        refine L.call rfl (evs.cons rfl <| evs.nil) qD qS (names_spec (b := sb) (tm := sm) (t := tabF k1 (delL row gs)) tab_le) ?_
        rintro _ _ _ ⟨na, nn, nc, rfl, hnn, rfl, rfl⟩
        refine L.norm qA qA ?_
        rw [tab_len] at hnn
        refine L.guardT (dj := 84) rfl rfl rfl ?_
        refine L.lenSl rfl Try.underlying34 rfl ?_
        refine L.guardT (dj := 84) rfl rfl rfl ?_
        refine L.move rfl rfl ?_
        refine L.guardT (dj := 84) rfl rfl rfl ?_
        refine L.lenMap (l := delL lm gs) rfl Try.underlying32 rfl qM ?_
        refine L.guardT (dj := 84) rfl rfl rfl ?_
        refine L.minI rfl rfl rfl ?_
        refine L.guardT (dj := 84) rfl rfl rfl ?_
        refine L.eqI rfl rfl rfl ?_
        refine L.pickT rfl rfl rfl ?_
        refine L.move rfl rfl ?_
        refine L.known (t := 93) rfl (show _ = Value.bool true from congrArg Value.bool (decide_eq_true (by omega))) ?_
        refine L.guardT (dj := 93) rfl rfl rfl ?_
        refine L.move rfl rfl ?_
        refine L.guardT (dj := 93) rfl rfl rfl ?_
        refine L.build rfl bua28 (BP.one rfl rfl rfl <| BP.doneE (out := (Value.int .u8 0 :: Value.int .u8 0 :: Value.int .u8 0 :: Value.int .u8 0 :: Value.int .u8 0 :: Value.int .u8 0 :: Value.int .u8 0 :: Value.int .u8 0 :: Value.int .u8 0 :: Value.int .u8 0 :: Value.int .u8 0 :: Value.int .u8 0 :: Value.int .u8 0 :: Value.int .u8 0 :: Value.int .u8 0 :: Value.int .u8 0 :: Value.int .u8 0 :: Value.int .u8 0 :: Value.int .u8 0 :: Value.int .u8 0 :: Value.int .u8 0 :: Value.int .u8 0 :: Value.int .u8 0 :: Value.int .u8 0 :: Value.int .u8 0 :: Value.int .u8 0 :: Value.int .u8 0 :: Value.int .u8 0 :: Value.int .u8 0 :: Value.int .u8 0 :: Value.int .u8 0 :: [])) rfl) ?_
        refine L.known (t := 95) (u := .agg (k2.1.map Y).toArray) rfl (by rfl) ?_
        refine L.guardT (dj := 93) rfl rfl rfl ?_
        refine L.call rfl (evs.cons rfl <| evs.cons rfl <| evs.cons rfl <| evs.nil) qD qS (get_spec (b := sb) (tm := sm) (t := tabF k1 (delL row gs)) (k := k2) (now := 0) (by have := @tab_le k1 (delL row gs); omega) (fun r hr => by rw [tab_look hr]; have := @delL_len gs row; have := hI.len; omega)) ?_
        rintro _ _ _ ⟨qa, qn, qc, ys, rfl, hqp, hqn, rfl, rfl⟩
        refine L.norm qA qA ?_
        rw [tab_other k12] at hqp hqn
        have hq0 := getF_nil hqp hqn
        refine L.guardT (dj := 93) rfl rfl rfl ?_
        refine L.lenSl rfl Try.underlying29 rfl ?_
        refine L.guardT (dj := 93) rfl rfl rfl ?_
        refine L.eqI rfl rfl rfl ?_
        refine L.pickT rfl rfl rfl ?_
        refine L.assign rfl rfl ?_
        refine L.nil ?_
        refine T.thenN ?_
        refine T.ret ?_
        exact T.ret1 rfl rfl ⟨congrArg Value.bool (decide_eq_true (by omega)), rfl, rfl⟩ qD qF
end Cv
