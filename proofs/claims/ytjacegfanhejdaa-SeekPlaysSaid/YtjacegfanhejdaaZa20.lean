/-
  The walks: the search and the document's: plain laws.
-/
import Derived.Test.YtjacegfanhejdaaZ20
import Derived.Test.YtjacegfanhejdaaCvLf
import Derived.Test.YtjacegfanhejdaaProg
import Derived.KernelRfl
set_option linter.unusedVariables false
set_option linter.unusedSimpArgs false
set_option linter.unusedSectionVars false
set_option maxRecDepth 10000
namespace Cv
open Go Go.Proofs
/-! ## the search, and the document's -/
def stx (lo : OfM) (n : Int) : Int := match look lo n with | none => -1 | some v => v.1
structure RS (o : Int) (lo : OfM) (lh : List (Int × Int)) (st si : List Int) (hv : List Bool) (b : Int) : Prop where
  lst : st.length = 64
  lsi : si.length = 64
  lhv : hv.length = 64
  s : ∀ n : Int, 0 ≤ n → n < 64 → gd st n.toNat = stx lo n
  t : ∀ (n : Int) v, look lo n = some v → v.1 = 1 → gd si n.toNat = v.2
  k : ∀ n v, look lo n = some v → May o n ∧ (0 ≤ v.1 ∧ v.1 ≤ 3) ∧ 0 ≤ v.2 ∧ v.2 ≤ b
  sib : ∀ j, 0 ≤ gd si j ∧ gd si j ≤ b
  h : ∀ n : Int, 0 ≤ n → n < 64 → (gd hv n.toNat = true ↔ look lh n ≠ none)
  hk : ∀ n, look lh n ≠ none → 0 ≤ n ∧ n < 64
theorem gd_rep {α : Type} [Inhabited α] {n j : Nat} {v : α} (hj : j < n) : gd (List.replicate n v) j = v := by simp [gd, hj]
theorem gd_out {α : Type} [Inhabited α] {l : List α} {j : Nat} (h : l.length ≤ j) : gd l j = default := by simp [gd, h]
theorem RS.zero {o : Int} : RS o [] [] (List.replicate 64 (-1)) (List.replicate 64 0) (List.replicate 64 false) 0 where
  lst := by simp
  lsi := by simp
  lhv := by simp
  s n h1 h2 := by rw [gd_rep (by omega)]; rfl
  t n v h := by cases h
  k n v h := by cases h
  sib j := by
    by_cases hj : j < 64
    · rw [gd_rep hj]; omega
    · rw [gd_out (by simp; omega)]; decide
  h n h1 h2 := by rw [gd_rep (by omega)]; simp [look]
  hk n h := by simp [look] at h
section
variable {o b b' now : Int} {lo l2 : OfM} {lh : List (Int × Int)} {st si : List Int} {hv : List Bool} {g : List UInt8}
theorem RS.up (h : RS o lo lh st si hv b) (hb : b ≤ b') : RS o lo lh st si hv b' :=
  ⟨h.lst, h.lsi, h.lhv, h.s, h.t, fun n v e => by have := h.k n v e; exact ⟨this.1, this.2.1, this.2.2.1, by omega⟩, fun j => by have := h.sib j; omega, h.h, h.hk⟩
theorem stx_neg (h : RS o lo lh st si hv b) (n : Int) : stx lo n < 0 ↔ look lo n = none := by
  unfold stx
  cases e : look lo n with
  | none => simp
  | some v => have := (h.k n v e).2.1; simp; omega
theorem stx_key {v : Int × Int} {n : Int} (e : look lo n = some v) : stx lo n = v.1 ∧ stO lo n = v.1 := by
  unfold stx stO; rw [e]; exact ⟨rfl, rfl⟩
/-- one entry is set -/
theorem RS.setE (h : RS o lo lh st si hv b) {n : Int} {v : Int × Int} (hm : May o n) (hv1 : 0 ≤ v.1 ∧ v.1 ≤ 3) (hv2 : 0 ≤ v.2 ∧ v.2 ≤ b) (ht : v.1 = 1 → gd si n.toNat = v.2) : RS o (put lo n v) lh (st.set n.toNat v.1) si hv b := by
  have hm0 := hm.2.1
  have hm1 := hm.2.2
  refine ⟨by rw [List.length_set]; exact h.lst, h.lsi, h.lhv, fun m h1 h2 => ?_, fun m u e hu => ?_, fun m u e => ?_, h.sib, h.h, h.hk⟩
  · rw [gd_setJ (by rw [h.lst]; omega)]
    unfold stx
    rw [look_put]
    by_cases e : m = n
    · subst e; rw [if_pos rfl, if_pos rfl]
    · rw [if_neg (fun q => e (by omega)), if_neg e]
      exact h.s m h1 h2
  · rw [look_put] at e
    split at e
    · rename_i q; cases e; rw [q]; exact ht hu
    · exact h.t m u e hu
  · rw [look_put] at e
    split at e
    · rename_i q; cases e; rw [q]; exact ⟨hm, hv1, hv2⟩
    · exact h.k m u e
theorem RS.meet1 (h : RS o lo lh st si hv b) (hb : 0 ≤ b) (n : Int) : RS o (Cv.meet1 o lo n) lh (rmeet1 o st n) si hv b := by
  unfold Cv.meet1 rmeet1
  by_cases hm : May o n
  · have e : gd st n.toNat < 0 ↔ look lo n = none := by rw [h.s n hm.2.1 hm.2.2]; exact stx_neg h n
    by_cases hl : look lo n = none
    · rw [if_pos ⟨hl, hm⟩, if_pos ⟨hm, e.2 hl⟩]
      exact h.setE (v := (0, 0)) hm (by simp) ⟨by simp, by simpa using hb⟩ (fun q => by cases q)
    · rw [if_neg (fun q => hl q.1), if_neg (fun q => hl (e.1 q.2))]
      exact h
  · rw [if_neg (fun q => hm q.2), if_neg (fun q => hm q.1)]
    exact h
theorem RS.meet (hb : 0 ≤ b) : ∀ {ns : List Int} {lo : OfM} {st : List Int}, RS o lo lh st si hv b → RS o (meetF o lo ns) lh (rmeetF o st ns) si hv b
  | [], _, _, h => h
  | n :: ns, lo, st, h => RS.meet hb (ns := ns) (h.meet1 hb n)
theorem RS.has1 (h : RS o lo lh st si hv b) (n : Int) : RS o lo (Cv.has1 o lh n) st si (rhas1 o hv n) b := by
  unfold Cv.has1 rhas1
  by_cases hm : May o n
  · rw [if_pos hm, if_pos hm]
    have hm0 := hm.2.1
    have hm1 := hm.2.2
    refine ⟨h.lst, h.lsi, by rw [List.length_set]; exact h.lhv, h.s, h.t, h.k, h.sib, fun m h1 h2 => ?_, fun m e => ?_⟩
    · rw [gd_setJ (by rw [h.lhv]; omega), look_put]
      by_cases e : m = n
      · subst e; simp
      · rw [if_neg (fun q => e (by omega)), if_neg e]; exact h.h m h1 h2
    · rw [look_put] at e
      split at e
      · rename_i q; omega
      · exact h.hk m e
  · rw [if_neg hm, if_neg hm]; exact h
theorem RS.has : ∀ {ns : List Int} {lh : List (Int × Int)} {hv : List Bool}, RS o lo lh st si hv b → RS o lo (hasF o lh ns) st si (rhasF o hv ns) b
  | [], _, _, h => h
  | n :: ns, lh, hv, h => RS.has (ns := ns) (h.has1 n)
theorem hear_has : ∀ {ns : List Int} {lh : List (Int × Int)}, InR ns → hearF o lh ns = hasF o lh ns
  | [], _, _ => rfl
  | n :: ns, lh, hr => by
    have e1 : hearF o lh (n :: ns) = hearF o (hear1 o lh n) ns := rfl
    have e2 : hasF o lh (n :: ns) = hasF o (Cv.has1 o lh n) ns := rfl
    have hn := hr n (List.mem_cons_self ..)
    have e3 : hear1 o lh n = Cv.has1 o lh n := by
      have hmay : May o n ↔ n ≠ o := ⟨fun e => e.1, fun q => ⟨q, hn.1, hn.2⟩⟩
      unfold hear1 Cv.has1
      by_cases q : n ≠ o
      · rw [if_pos q, if_pos (hmay.2 q)]
      · rw [if_neg q, if_neg (fun e => q (hmay.1 e))]
    rw [e1, e2, e3]
    exact hear_has fun x hx => hr x (List.mem_cons_of_mem _ hx)
theorem RS.late (h : RS o lo lh st si hv b) (hb : b ≤ now) : RS o (lateF now lo) lh (rlateF now si st 64) si hv now := by
  refine ⟨by rw [rlate_len]; exact h.lst, h.lsi, h.lhv, fun n h1 h2 => ?_, fun n v e e1 => ?_, fun n v e => ?_, fun j => by have := h.sib j; omega, h.h, h.hk⟩
  · rw [rlate_gd h.lst (Nat.le_refl _)]
    have hs := h.s n h1 h2
    unfold stx at hs ⊢
    rw [look_late]
    cases e : look lo n with
    | none =>
      rw [e] at hs
      simp only at hs
      rw [if_neg (fun q => by omega), hs]; rfl
    | some v =>
      rw [e] at hs
      simp only at hs
      simp only [Option.map_some]
      unfold lateP
      by_cases q : v.1 = 1 ∧ 8 ≤ now - v.2
      · have := h.t n v e q.1
        rw [if_pos q, if_pos ⟨by omega, by omega, by omega⟩]
      · rw [if_neg q, if_neg (fun q2 => q ⟨by omega, by have := h.t n v e (by omega); omega⟩), hs]
  · rw [look_late] at e
    cases e2 : look lo n with
    | none => rw [e2] at e; cases e
    | some u =>
      rw [e2] at e
      simp only [Option.map_some, Option.some.injEq] at e
      unfold lateP at e
      split at e
      · subst e; cases e1
      · subst e; exact h.t n u e2 e1
  · rw [look_late] at e
    cases e2 : look lo n with
    | none => rw [e2] at e; cases e
    | some u =>
      have hk := h.k n u e2
      rw [e2] at e
      simp only [Option.map_some, Option.some.injEq] at e
      unfold lateP at e
      split at e
      · subst e; exact ⟨hk.1, by simp, by simp; omega⟩
      · subst e; exact ⟨hk.1, hk.2.1, hk.2.2.1, by omega⟩
theorem RS.live (h : RS o lo lh st si hv b) (hnd : (lo.map Prod.fst).Nodup) : (liveK lo).Perm (liveR st 64) := by
  refine (List.perm_ext_iff_of_nodup ?_ ?_).2 fun n => ?_
  · unfold liveK; exact (List.Sublist.map _ List.filter_sublist).nodup hnd
  · unfold liveR
    refine List.Sublist.nodup List.filter_sublist ?_
    exact List.Pairwise.map _ (fun a b h e => h (by omega)) List.nodup_range
  · rw [live_iff hnd]
    unfold liveR
    rw [List.mem_filter, List.mem_map]
    constructor
    · rintro ⟨v, hv, h3⟩
      have hk := h.k n v hv
      have hm := hk.1
      unfold May at hm
      refine ⟨⟨n.toNat, List.mem_range.2 (by omega), by omega⟩, ?_⟩
      unfold liveB
      rw [h.s n hm.2.1 hm.2.2, (stx_key hv).1]
      exact decide_eq_true (by omega)
    · rintro ⟨⟨m, hm, rfl⟩, hl⟩
      rw [List.mem_range] at hm
      unfold liveB at hl
      have hl := of_decide_eq_true hl
      rw [h.s (m : Int) (by omega) (by omega)] at hl
      unfold stx at hl
      cases e : look lo (m : Int) with
      | none => rw [e] at hl; simp at hl
      | some v => rw [e] at hl; simp at hl; exact ⟨v, rfl, by omega⟩
theorem RS.sorted {ys : List Int} (hg : g.length = 32) (h : RS o lo lh st si hv b) (hnd : (lo.map Prod.fst).Nodup) (hS : SortedBy (cfG g) (liveK lo) ys) : ys = srtG g (liveR st 64) :=
  srtG_of hg (range_in (Nat.le_refl _)) ⟨hS.1.trans (h.live hnd), hS.2⟩
theorem RS.cnt (h : RS o lo lh st si hv b) (hnd : (lo.map Prod.fst).Nodup) : cntS lo 1 = oneR st 64 := by
  have e : ((lo.filter fun p => decide (p.2.1 = 1)).map Prod.fst).Perm (((List.range 64).map fun n : Nat => (n : Int)).filter fun n => decide (gd st n.toNat = 1)) := by
    refine (List.perm_ext_iff_of_nodup ((List.Sublist.map _ List.filter_sublist).nodup hnd) ?_).2 fun n => ?_
    · refine List.Sublist.nodup List.filter_sublist ?_
      exact List.Pairwise.map _ (fun a b h e => h (by omega)) List.nodup_range
    · rw [List.mem_filter, List.mem_map, List.mem_map]
      constructor
      · rintro ⟨p, hp, rfl⟩
        have hp1 := List.mem_filter.1 hp
        have hl := look_of_mem hnd (k := p.1) (v := p.2) hp1.1
        have hk := h.k p.1 p.2 hl
        have hm := hk.1
        unfold May at hm
        refine ⟨⟨p.1.toNat, List.mem_range.2 (by omega), by omega⟩, ?_⟩
        rw [h.s p.1 hm.2.1 hm.2.2, (stx_key hl).1]
        exact hp1.2
      · rintro ⟨⟨m, hm, rfl⟩, hl⟩
        rw [List.mem_range] at hm
        have hl := of_decide_eq_true hl
        rw [h.s (m : Int) (by omega) (by omega)] at hl
        unfold stx at hl
        cases e : look lo (m : Int) with
        | none => rw [e] at hl; simp at hl
        | some v =>
          rw [e] at hl
          exact ⟨((m : Int), v), List.mem_filter.2 ⟨mem_of_look e, decide_eq_true hl⟩, rfl⟩
  have := e.length_eq
  rw [List.length_map] at this
  exact this
theorem keys_put_of {l : OfM} {k : Int} {v : Int × Int} (h : look l k ≠ none) : (put l k v).map Prod.fst = l.map Prod.fst := by
  rw [keys_put, if_pos (Decidable.not_not.1 fun e => h (look_none_iff.2 e))]
theorem ask_rel {room : Int} : ∀ {ys : List Int} {l1 : OfM} {s1 si : List Int} {out : List Int} {c : Nat}, RS o l1 lh s1 si hv now → (∀ n ∈ ys, look l1 n ≠ none) → 0 ≤ now → (room = 3 - (c : Int) + (out.length : Int)) →
    ∃ l2 s2 si2 out2, askF now room ys l1 out = (l2, out2) ∧ raskF now ys s1 si c out = (s2, si2, out2) ∧ RS o l2 lh s2 si2 hv now
  | [], l1, s1, si, out, c, h, _, _, _ => ⟨l1, s1, si, out, rfl, rfl, h⟩
  | n :: ys, l1, s1, si, out, c, h, hk, hnow, hr => by
    obtain ⟨v, hv0⟩ : ∃ v, look l1 n = some v := by
      cases e : look l1 n with
      | none => exact absurd e (hk n (List.mem_cons_self ..))
      | some v => exact ⟨v, rfl⟩
    have hkv := h.k n v hv0
    have hm := hkv.1
    have hm0 := hm.2.1
    have hm1 := hm.2.2
    have hst : gd s1 n.toNat = stO l1 n := by rw [h.s n hm0 hm1, (stx_key hv0).1, (stx_key hv0).2]
    unfold askF raskF
    by_cases hc : (out.length : Int) < room ∧ stO l1 n = 0
    · rw [if_pos hc, if_pos ⟨by rw [hst]; exact hc.2, by omega⟩]
      -- the entry is set
      have h2 : RS o l1 lh s1 (si.set n.toNat now) hv now := by
        refine ⟨h.lst, by rw [List.length_set]; exact h.lsi, h.lhv, h.s, fun m u e e1 => ?_, h.k, fun j => ?_, h.h, h.hk⟩
        · rw [gd_setJ (by rw [h.lsi]; omega)]
          have hmu := (h.k m u e).1
          unfold May at hmu
          by_cases q : m = n
          · subst q
            rw [hv0] at e; cases e
            have := hc.2
            rw [(stx_key hv0).2] at this; omega
          · rw [if_neg (fun q2 => q (by omega))]; exact h.t m u e e1
        · rw [gd_setJ (by rw [h.lsi]; omega)]
          split
          · omega
          · exact h.sib j
      have h3 := h2.setE (n := n) (v := (1, now)) hm (by simp) ⟨by simpa using hnow, by simp⟩ (fun _ => by rw [gd_setJ (by rw [h.lsi]; omega), if_pos rfl])
      exact ask_rel h3 (fun m hm2 => by
        rw [look_put]; split
        · simp
        · exact hk m (List.mem_cons_of_mem _ hm2)) hnow (by simp; omega)
    · rw [if_neg hc, if_neg (fun q => hc ⟨by omega, by rw [← hst]; exact q.1⟩)]
      exact ask_rel h (fun m hm2 => hk m (List.mem_cons_of_mem _ hm2)) hnow hr
theorem RS.ask {ys out out' st' si' : List Int} (hg : g.length = 32) (h : RS o lo lh st si hv b) (hnd : (lo.map Prod.fst).Nodup) (hb : b ≤ now) (hnow : 0 ≤ now) (hS : SortedBy (cfG g) (liveK (lateF now lo)) ys)
    (hA : askF now (3 - (cntS (lateF now lo) 1 : Int)) (ys.take 6) (lateF now lo) [] = (l2, out))
    (hR : raskF now ((srtG g (liveR (rlateF now si st 64) 64)).take 6) (rlateF now si st 64) si (oneR (rlateF now si st 64) 64) [] = (st', si', out')) : out = out' ∧ RS o l2 lh st' si' hv now := by
  have hL := h.late hb
  have hndL : ((lateF now lo).map Prod.fst).Nodup := by rw [lateF_keys]; exact hnd
  have hys := hL.sorted hg hndL hS
  obtain ⟨l3, s3, si3, out3, e1, e2, e3⟩ := ask_rel (room := 3 - (cntS (lateF now lo) 1 : Int)) (ys := ys.take 6) (out := []) (c := oneR (rlateF now si st 64) 64) hL (fun n hn => by
    obtain ⟨v, hv, _⟩ := (live_iff hndL).1 (hS.1.mem_iff.1 (List.mem_of_mem_take hn))
    rw [hv]; simp) hnow (by rw [hL.cnt hndL]; simp)
  rw [← hys] at hR
  rw [e1] at hA
  rw [e2] at hR
  cases hA; cases hR
  exact ⟨rfl, e3⟩
theorem RS.told (h : RS o lo lh st si hv b) {n : Int} (hn : n ∈ liveK lo) (hnd : (lo.map Prod.fst).Nodup) : toldB lo n = decide (gd st n.toNat = 2) := by
  obtain ⟨v, hv, _⟩ := (live_iff hnd).1 hn
  have hm := (h.k n v hv).1
  unfold toldB
  rw [h.s n hm.2.1 hm.2.2, (stx_key hv).1, (stx_key hv).2]
theorem RS.over {ys : List Int} (hg : g.length = 32) (h : RS o lo lh st si hv b) (hnd : (lo.map Prod.fst).Nodup) (hS : SortedBy (cfG g) (liveK lo) ys) : ((srtG g (liveR st 64)).take 6).all (fun n => decide (gd st n.toNat = 2)) = (ys.take 6).all (toldB lo) := by
  rw [← h.sorted hg hnd hS]
  have : ∀ l : List Int, (∀ n ∈ l, n ∈ liveK lo) → l.all (fun n => decide (gd st n.toNat = 2)) = l.all (toldB lo) := by
    intro l
    induction l with
    | nil => intro _; rfl
    | cons n l ih => intro hl; rw [List.all_cons, List.all_cons, h.told (hl n (List.mem_cons_self ..)) hnd, ih fun m hm => hl m (List.mem_cons_of_mem _ hm)]
  exact this _ fun n hn => hS.1.mem_iff.1 (List.mem_of_mem_take hn)
theorem RS.near {ys : List Int} (hg : g.length = 32) (h : RS o lo lh st si hv b) (hnd : (lo.map Prod.fst).Nodup) (hS : SortedBy (cfG g) (liveK lo) ys) : (ys.filter (toldB lo)).take 6 = tellR st (srtG g (liveR st 64)) := by
  rw [← h.sorted hg hnd hS]
  unfold tellR
  congr 1
  exact List.filter_congr fun n hn => h.told (hS.1.mem_iff.1 hn) hnd
theorem RS.holders {xs : List Int} (h : RS o lo lh st si hv b) (hnd : (lh.map Prod.fst).Nodup) (hp : xs.Perm (lh.map Prod.fst)) : (xs.mergeSort fun x y => decide (x ≤ y)) = haveR hv 64 := by
  refine List.Perm.eq_of_pairwise (le := fun x y => x ≤ y) (fun a b _ _ h1 h2 => by omega) ?_ ?_ ?_
  · have h1 : (xs.mergeSort fun x y => decide (x ≤ y)).Pairwise (fun x y => decide (x ≤ y) = true) := List.pairwise_mergeSort (fun a b c h1 h2 => by simp at *; omega) (fun a b => by simp; omega) xs
    exact h1.imp fun h => of_decide_eq_true h
  · unfold haveR
    refine List.Pairwise.sublist List.filter_sublist ?_
    exact List.Pairwise.map _ (fun a b h => by omega) (List.pairwise_lt_range (n := 64))
  · refine (List.mergeSort_perm xs _).trans (hp.trans ((List.perm_ext_iff_of_nodup hnd ?_).2 fun n => ?_))
    · unfold haveR
      refine List.Sublist.nodup List.filter_sublist ?_
      exact List.Pairwise.map _ (fun a b h e => h (by omega)) List.nodup_range
    · have hl : n ∈ lh.map Prod.fst ↔ look lh n ≠ none := by rw [ne_eq, look_none_iff, Decidable.not_not]
      rw [hl]
      unfold haveR
      rw [List.mem_filter, List.mem_map]
      constructor
      · intro e
        have hk := h.hk n e
        exact ⟨⟨n.toNat, List.mem_range.2 (by omega), by omega⟩, (h.h n hk.1 hk.2).2 e⟩
      · rintro ⟨⟨m, hm, rfl⟩, hl⟩
        rw [List.mem_range] at hm
        exact (h.h (m : Int) (by omega) (by omega)).1 hl
theorem RS.ans (h : RS o lo lh st si hv b) {fr : Int} {id : List UInt8} (hf : 0 ≤ fr ∧ fr < 64) : Answ g lo 4 fr id ↔ RAns g id st fr := by
  unfold Answ RAns
  rw [h.s fr hf.1 hf.2]
  unfold stx stO
  cases e : look lo fr with
  | none => simp
  | some v =>
    simp only [Option.getD_some]
    constructor
    · rintro ⟨h1, _, h3⟩; exact ⟨h3, hf.1, by omega, h1⟩
    · rintro ⟨h1, _, _, h4⟩; exact ⟨h4, trivial, h1⟩
theorem RS.ansB (h : RS o lo lh st si hv b) {fr : Int} {id : List UInt8} (hf : 0 ≤ fr ∧ fr < 64) : (decide (Answ g lo 4 fr id) != decide (RAns g id st fr)) = false := by
  have e := h.ans (g := g) (id := id) hf
  by_cases hA : Answ g lo 4 fr id
  · rw [decide_eq_true hA, decide_eq_true (e.1 hA)]; rfl
  · rw [decide_eq_false hA, decide_eq_false (fun q => hA (e.2 q))]; rfl
theorem RS.hear (h : RS o lo lh st si hv b) (hb : 0 ≤ b) {fr : Int} {id : List UInt8} {ps hs : List Int} (hf : 0 ≤ fr ∧ fr < 64) (hr : InR hs) :
    RS o (if Answ g lo 4 fr id then meetF o (put lo fr (2, inO lo fr)) ps else lo) (if Answ g lo 4 fr id then hearF o lh hs else lh) (if RAns g id st fr then rmeetF o (st.set fr.toNat 2) ps else st) si (if RAns g id st fr then rhasF o hv hs else hv) b := by
  by_cases ha : Answ g lo 4 fr id
  · rw [if_pos ha, if_pos ha, if_pos ((h.ans hf).1 ha), if_pos ((h.ans hf).1 ha), hear_has hr]
    obtain ⟨v, hv0, he⟩ := st_some2 (lo := lo) (n := fr) (by rw [ha.1]; decide)
    have hk := h.k fr v hv0
    refine RS.has (RS.meet hb (h.setE (v := (2, inO lo fr)) hk.1 (by simp) ?_ (fun q => by cases q)))
    have : inO lo fr = v.2 := by unfold inO; rw [hv0]; rfl
    simp only [this]; exact hk.2.2
  · rw [if_neg ha, if_neg ha, if_neg (fun q => ha ((h.ans hf).2 q)), if_neg (fun q => ha ((h.ans hf).2 q))]
    exact h
theorem RS.len (h : RS o lo lh st si hv b) (hnd : (lo.map Prod.fst).Nodup) : lo.length ≤ 64 := by
  have := nodup_le (m := (List.range 64).map fun n : Nat => (n : Int)) hnd (fun x hx => by
    obtain ⟨p, hp, rfl⟩ := List.mem_map.1 hx
    have := (h.k p.1 p.2 (look_of_mem hnd hp)).1
    unfold May at this
    exact List.mem_map.2 ⟨p.1.toNat, List.mem_range.2 (by omega), by omega⟩)
  rw [List.length_map, List.length_map, List.length_range] at this
  exact this
theorem RS.lenh (h : RS o lo lh st si hv b) (hnd : (lh.map Prod.fst).Nodup) : lh.length ≤ 64 := by
  have := nodup_le (m := (List.range 64).map fun n : Nat => (n : Int)) hnd (fun x hx => by
    have := h.hk x (fun e => look_none_iff.1 e hx)
    exact List.mem_map.2 ⟨x.toNat, List.mem_range.2 (by omega), by omega⟩)
  rw [List.length_map, List.length_map, List.length_range] at this
  exact this
theorem RS.since (h : RS o lo lh st si hv b) (hnd : (lo.map Prod.fst).Nodup) (hb : b ≤ 1000000) : SinceB lo := fun p hp => by
  have := (h.k p.1 p.2 (look_of_mem hnd hp)).2.2; omega
theorem RS.sibs (h : RS o lo lh st si hv b) (hb : b ≤ 1000000) : ∀ j, -1000000 ≤ gd si j ∧ gd si j ≤ 1000000 := fun j => by have := h.sib j; omega
end
/-! ## acts -/
abbrev AR := (Int × Int × Int × Bool) × SL × SL
@[reducible] def aE (z : AR) : List Value := [.int .i64 z.1.1, .int .i64 z.1.2.1, .int .i64 z.1.2.2.1, .bool z.1.2.2.2, .slice z.2.1.1 z.2.1.2.1 z.2.1.2.2.1, .slice z.2.2.1 z.2.2.2.1 z.2.2.2.2.1]
def aA1 (z : AR) : Asn := fun h => rsl 1 z.2.1.1 z.2.1.2.1 z.2.1.2.2.1 (z.2.1.2.2.2.map e3) h ∧ rsl 1 z.2.2.1 z.2.2.2.1 z.2.2.2.2.1 (z.2.2.2.2.2.map e3) h ∧ z.2.2.2.1 ≤ 9223372036854775807
def aA (zs : List AR) : Asn := fun h => ∀ z ∈ zs, aA1 z h
section
variable {H : Type} {enc : TypeId × Value → H} {W : World} {base : Nat} {sp : Nat → Bool} {held : Bool}
theorem el_sl2 {n : Nat} {cs : List Value} {y : DataW H × List MemPlace} (h : DataW.trod enc Try.prog W base sp held n 22 cs = some y) :
    ∃ z : SL, cs = slE z ∧ rsl 1 z.1 z.2.1 z.2.2.1 (z.2.2.2.map e3) (hp W) ∧ z.2.1 ≤ 9223372036854775807 := by
  have hcs : ∃ a len cap, cs = [.slice a len cap] ∧ len ≤ 9223372036854775807 := by
    rcases Deep.open_slice Try.underlying22 h with ⟨h1, _⟩ | ⟨ad, len, cap, _, _, _, _, h1, _, h2, h3, _⟩
    · exact ⟨_, _, _, h1, by omega⟩
    · have : maxLen = 9223372036854775807 := rfl
      exact ⟨_, _, _, h1, by omega⟩
  obtain ⟨a, len, cap, rfl, hle⟩ := hcs
  obtain ⟨xs, h1, _⟩ := arg_slice (sz := 1) e3 g3 Try.underlying22 (by kernel_rfl) (by decide) (fun h => el3z h) (by simpa [Value.cells] using h)
  exact ⟨(a, len, cap, xs), rfl, h1, hle⟩
theorem el_act {n : Nat} {cs : List Value} {y : DataW H × List MemPlace} (h : DataW.trod enc Try.prog W base sp held n 50 cs = some y) : ∃ z : AR, cs = aE z ∧ aA1 z (hp W) := by
  obtain ⟨xs, m, -, -, hl, hx, hf⟩ := DataW.trod_struct Try.underlying50 h
  rw [show Try.prog.cellsOf 50 = 6 from by kernel_rfl] at hl
  match cs, hl with
  | [c0, c1, c2, c3, c4, c5], _ =>
    obtain ⟨y0, h0⟩ := Cv.el_field (o := 0) hx hf 0 _ rfl rfl (show Try.prog.cellsOf 3 = 1 from by kernel_rfl)
    obtain ⟨n0, e0, -⟩ := el3z h0
    obtain ⟨y1, h1⟩ := Cv.el_field (o := 1) hx hf 1 _ rfl rfl (show Try.prog.cellsOf 3 = 1 from by kernel_rfl)
    obtain ⟨n1, e1, -⟩ := el3z h1
    obtain ⟨y2, h2⟩ := Cv.el_field (o := 2) hx hf 2 _ rfl rfl (show Try.prog.cellsOf 3 = 1 from by kernel_rfl)
    obtain ⟨n2, e2, -⟩ := el3z h2
    obtain ⟨y3, h3⟩ := Cv.el_field (o := 3) hx hf 3 _ rfl rfl (show Try.prog.cellsOf 4 = 1 from by kernel_rfl)
    obtain ⟨n3, e3', -⟩ := el4z h3
    obtain ⟨y4, h4⟩ := Cv.el_field (o := 4) hx hf 4 _ rfl rfl (show Try.prog.cellsOf 22 = 1 from by kernel_rfl)
    obtain ⟨z4, e4', r4⟩ := el_sl h4
    obtain ⟨y5, h5⟩ := Cv.el_field (o := 5) hx hf 5 _ rfl rfl (show Try.prog.cellsOf 22 = 1 from by kernel_rfl)
    obtain ⟨z5, e5, r5, b5⟩ := el_sl2 h5
    simp only [e3, e4, slE, List.drop, List.take, List.cons.injEq, and_true] at e0 e1 e2 e3' e4' e5
    subst e0; subst e1; subst e2; subst e3'; subst e4'; subst e5
    exact ⟨((n0, n1, n2, n3), z4, z5), rfl, r4, r5, b5⟩
end
theorem cons_of {l : List UInt8} (h : l.length = 32) : ∃ x t, l = x :: t ∧ t.length = 31 := by
  match l, h with
  | x :: t, h => exact ⟨x, t, rfl, by simpa using h⟩
theorem f64_in (x : Int) : 0 ≤ f64 x ∧ f64 x < 64 := fewF_in (xs := [x]) (f64 x) (by simp [fewF])

set_option maxHeartbeats 400000 in
theorem goal_spec {b m1 m2 : Nat} {g : List UInt8} {o : Int} (hg : g.length = 32) : Spec Try.prog 27 [.pointer (some ⟨b, 0, none⟩)] [cl b 62 (hdrS g o m1 m2)] [] (fun v D' M' => v = .agg (g.map Y).toArray ∧ D' = [] ∧ M' = []) := by
  refine Spec.intro (n := 7) Try.func27 rfl rfl (by decide) (Nat.le_of_ble_eq_true rfl) rfl (fun _ => qA) (fun _ => qA) ?_
  intro σ D M
  refine T.seq ?_
  refine T.region ?_
  refine L.alloc rfl ze27 (fun b2 => ?_)
  refine L.nil ?_
  refine T.thenN ?_
  refine T.seq ?_
  refine T.region ?_
  refine L.move rfl rfl ?_
  refine L.nilCheck rfl rfl ?_
  first | refine L.field0 rfl fo62_0 rfl ?_ | refine L.field rfl fo62_0 rfl ?_
  refine L.loadA rfl ag27 rfl qN ?_
  refine L.storeA ag27 rfl rfl qL qO qU qW ?_
  refine L.nil ?_
  refine T.thenN ?_
  refine T.ret ?_
  exact T.retA rfl ag27 rfl qN ⟨rfl, rfl, rfl⟩ qD qF
end Cv
