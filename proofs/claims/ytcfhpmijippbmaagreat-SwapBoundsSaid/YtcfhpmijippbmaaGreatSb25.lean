/-
  The walks: what acts do.
-/
import Derived.Test.YtcfhpmijippbmaaGreatSa25
import Derived.Test.YtcfhpmijippbmaaGreatProg
import Derived.KernelRfl
set_option linter.unusedVariables false
set_option linter.unusedSimpArgs false
set_option linter.unusedSectionVars false
set_option maxRecDepth 10000
namespace Cv
open Go Go.Proofs
theorem nd_at {α : Type} {ol : List Ord} {f : Ord → α} (h : (ol.map f).Nodup) {i j : Nat} {x y : Ord} (hi : ol[i]? = some x) (hj : ol[j]? = some y) (e : f x = f y) : i = j := by
  obtain ⟨h1, rfl⟩ := List.getElem?_eq_some_iff.1 hi
  obtain ⟨h2, rfl⟩ := List.getElem?_eq_some_iff.1 hj
  have hp := List.pairwise_iff_getElem.1 h
  rcases Nat.lt_trichotomy i j with q | q | q
  · exact absurd (by rw [List.getElem_map, List.getElem_map]; exact e) (hp i j (by simpa using h1) (by simpa using h2) q)
  · exact q
  · exact absurd (by rw [List.getElem_map, List.getElem_map]; exact e.symm) (hp j i (by simpa using h2) (by simpa using h1) q)
def pickN (ol : List Ord) (n : Int) : Nat := ((n.tmod ol.length + ol.length).tmod ol.length).toNat
def AnsHit (ol : List Ord) (n : Int) (r : Ans) (j : Nat) (x : Ord) : Prop :=
  r.2.2.2.2 = (j : Int) ∧ j < ol.length ∧ ol[j]? = some x ∧ x = gd ol j ∧ j = pickN ol n ∧ r.1 = x.2.1 ∧ r.2.2.1 = x.1.2.1 ∧ r.2.2.2.1 = x.1.1 ∧ idxQ (mB r.1 r.2.1 r.2.2.1.1 r.2.2.2.1) ol = (j : Int)
theorem ans_sim {ol : List Ord} {sq n b : Int} (h : OInv ol sq) {r : Ans} (hr : r = ansF ol n b) :
    (r.2.2.2.2 < 0 ∧ ∀ y ∈ ol, mB r.1 r.2.1 r.2.2.1.1 r.2.2.2.1 y = false) ∨ ∃ j x, AnsHit ol n r j x := by
  rcases Nat.eq_zero_or_pos ol.length with e | e
  · have e := List.length_eq_zero_iff.1 e
    subst e
    left
    rw [hr]
    exact ⟨by show (-1 : Int) < 0; decide, by simp⟩
  · obtain ⟨j, hj, hjn⟩ := pick_at (n := n) e
    have hg : ol[j]? = some (gd ol j) := gd_get hj
    obtain ⟨x, hx⟩ : ∃ x, x = gd ol j := ⟨_, rfl⟩
    rw [← hx] at hg
    have hxm := List.mem_of_getElem? hg
    have hof := h.of_ x hxm
    rw [ans_at e hjn hx] at hr
    split at hr
    · left
      subst hr
      refine ⟨by show (-1 : Int) < 0; decide, fun y hy => decide_eq_false ?_⟩
      rintro ⟨e1, e2, _, _⟩
      simp only at e1 e2
      obtain ⟨k, hk⟩ := List.getElem?_of_mem hy
      have := nd_at (f := fun x => x.2.2.1) h.nsq hk hg e2
      subst this
      rw [hg] at hk
      injection hk with hk
      subst hk
      omega
    · split at hr
      · left
        subst hr
        refine ⟨by show (-1 : Int) < 0; decide, fun y hy => decide_eq_false ?_⟩
        rintro ⟨_, e2, e3, _⟩
        simp only at e2 e3
        obtain ⟨k, hk⟩ := List.getElem?_of_mem hy
        have := nd_at (f := fun x => x.1.2.1.1) h.nid hk hg e3
        subst this
        rw [hg] at hk
        injection hk with hk
        subst hk
        omega
      · right
        subst hr
        refine ⟨j, x, rfl, hj, hg, hx, by unfold pickN; rw [hjn]; rfl, rfl, rfl, rfl, ?_⟩
        refine idxQ_at (fun y hy => decide_eq_false ?_) hg (decide_eq_true ⟨rfl, rfl, rfl, rfl⟩)
        rintro ⟨_, e2, _, _⟩
        simp only at e2
        obtain ⟨k, hk⟩ := List.getElem?_of_mem hy
        have hkl : k < j := by
          have := (List.getElem?_eq_some_iff.1 hk).1
          rw [List.length_take] at this; omega
        rw [List.getElem?_take_of_lt hkl] at hk
        have := nd_at (f := fun x => x.2.2.1) h.nsq hk hg e2
        omega
theorem atM_ban (ml : List (Int × Mind)) (n : Int) (p : PF) : banB (atM ml) n p = atM (banL ml n p) := (funext (pinv_ban (n := n) (p := p) (F := atM ml) (i := ml.length) ⟨fun _ => rfl, Nat.le_refl _⟩).same).symm
theorem atM_setF (ml : List (Int × Mind)) (n : Int) (m : Mind) : updM (atM ml) n m = atM (setL ml n m) := funext fun k => atM_set.symm
theorem banL_ok {ml : List (Int × Mind)} {n : Int} {p : PF} (h : ∀ k, MOk (atM ml k)) (hp : p.2.1.length = 32) (k : Int) : MOk (atM (banL ml n p) k) := by
  rw [← atM_ban]
  unfold banB
  split
  · exact h k
  · unfold updM; split
    · exact banM_ok (h _) hp
    · exact h k
theorem goodL_ok {ml : List (Int × Mind)} {n : Int} (h : ∀ k, MOk (atM ml k)) (k : Int) : MOk (atM (setL ml n (goodM (atM ml n))) k) := by
  rw [atM_set]; unfold updM; split
  · exact goodM_ok (h _)
  · exact h k
theorem banL_5 {ml : List (Int × Mind)} {n : Int} {p : PF} (h : n = 5 → oidF p.1 p.2.2 = p.2.1) (h5 : (atM ml 5).2.2.2 = none) : (atM (banL ml n p) 5).2.2.2 = none := by
  rw [← atM_ban]
  unfold banB
  split
  · exact h5
  · unfold updM
    rename_i e
    split
    · rename_i e2; exact absurd (h e2.symm) e
    · exact h5
theorem goodL_5 {ml : List (Int × Mind)} {n : Int} (h5 : (atM ml 5).2.2.2 = none) : (atM (setL ml n (goodM (atM ml n))) 5).2.2.2 = none := by
  rw [atM_set]; unfold updM
  split
  · rename_i e; subst e; exact h5
  · exact h5
structure BSim (ol : List Ord) (lk ll : List (LK × Int)) (ml : List (Int × Mind)) (r : Ans) (tx : List UInt8) (B : BlkR) (R : RBlk) : Prop where
  err : B.2.1 = R.2.2.2
  ord : B.2.2.1 = R.1
  mind : B.2.2.2.1 = atM R.2.2.1
  same : ∀ k, look R.2.1 k = look B.2.2.2.2 k
  ndl : (R.2.1.map Prod.fst).Nodup
  ndk : (B.2.2.2.2.map Prod.fst).Nodup
  good : B.2.1 = 0 → B.1 = (r.2.2.2.1, r.2.2.1.1, tx) ∧ oidF r.2.2.2.1 tx = r.2.2.1.1
  bad : B.2.1 ≠ 0 → B.1 = zP
  sub : R.1.Sublist ol
  len : R.2.1.length ≤ ll.length + 1
  lenm : R.2.2.1.length ≤ ml.length + 1
  ok : ∀ k, MOk (atM R.2.2.1 k)
  five : (∀ j x, r.2.2.2.2 = ((j : Nat) : Int) → x = gd ol j → x.2.1 = 5 → oidF r.2.2.2.1 tx = r.2.2.1.1) → (atM ml 5).2.2.2 = none → (atM R.2.2.1 5).2.2.2 = none
theorem blk_3 {F : Int → Mind} {ol : List Ord} {lk : List (LK × Int)} {fr sq now what : Int} {id : ID32} {tx : List UInt8} {j : Nat} (hi : idxQ (mB fr sq id.1 what) ol = (j : Int)) (c : oidF what tx ≠ id.1) : blkF F ol lk fr sq id what tx now = (zP, 3, ol.eraseIdx j, banB F fr (what, id.1, tx), lk) := by
  unfold blkF; rw [hi, if_neg (by omega), if_pos c]; rfl
theorem blk_5 {F : Int → Mind} {ol : List Ord} {lk : List (LK × Int)} {fr sq now what : Int} {id : ID32} {tx : List UInt8} {j : Nat} (hi : idxQ (mB fr sq id.1 what) ol = (j : Int)) (c : oidF what tx = id.1) (c2 : (gd ol j).1.2.2 < tx.length) : blkF F ol lk fr sq id what tx now = (zP, 5, ol.eraseIdx j, F, Cv.put lk (fr, id) (now + 12)) := by
  unfold blkF; rw [hi, if_neg (by omega), if_neg (fun e => e c), show ((j : Nat) : Int).toNat = j from rfl, if_pos c2]
theorem blk_0 {F : Int → Mind} {ol : List Ord} {lk : List (LK × Int)} {fr sq now what : Int} {id : ID32} {tx : List UInt8} {j : Nat} (hi : idxQ (mB fr sq id.1 what) ol = (j : Int)) (c : oidF what tx = id.1) (c2 : ¬ (gd ol j).1.2.2 < tx.length) : blkF F ol lk fr sq id what tx now = ((what, id.1, tx), 0, ol.eraseIdx j, updM F fr (goodM (F fr)), lk) := by
  unfold blkF; rw [hi, if_neg (by omega), if_neg (fun e => e c), show ((j : Nat) : Int).toNat = j from rfl, if_neg c2]
theorem rblk_3 {ol : List Ord} {ll : List (LK × Int)} {ml : List (Int × Mind)} {now : Int} {tx : List UInt8} {j : Nat} {x : Ord} (hx : x = gd ol j) (c : oidF x.1.1 tx ≠ x.1.2.1.1) : rblkF ol ll ml (j : Int) tx now = (ol.eraseIdx j, ll, banL ml x.2.1 (x.1.1, x.1.2.1.1, tx), 3) := by
  unfold rblkF; rw [if_neg (by omega), show ((j : Nat) : Int).toNat = j from rfl, ← hx, if_pos c]
theorem rblk_5 {ol : List Ord} {ll : List (LK × Int)} {ml : List (Int × Mind)} {now : Int} {tx : List UInt8} {j : Nat} {x : Ord} (hx : x = gd ol j) (c : oidF x.1.1 tx = x.1.2.1.1) (c2 : x.1.2.2 < tx.length) : rblkF ol ll ml (j : Int) tx now = (ol.eraseIdx j, setK ll (x.2.1, x.1.2.1) (now + 12), ml, 5) := by
  unfold rblkF; rw [if_neg (by omega), show ((j : Nat) : Int).toNat = j from rfl, ← hx, if_neg (fun e => e c), if_pos c2]
theorem rblk_0 {ol : List Ord} {ll : List (LK × Int)} {ml : List (Int × Mind)} {now : Int} {tx : List UInt8} {j : Nat} {x : Ord} (hx : x = gd ol j) (c : oidF x.1.1 tx = x.1.2.1.1) (c2 : ¬ x.1.2.2 < tx.length) : rblkF ol ll ml (j : Int) tx now = (ol.eraseIdx j, ll, setL ml x.2.1 (goodM (atM ml x.2.1)), 0) := by
  unfold rblkF; rw [if_neg (by omega), show ((j : Nat) : Int).toNat = j from rfl, ← hx, if_neg (fun e => e c), if_neg c2]
theorem rblk_7 {ol : List Ord} {ll : List (LK × Int)} {ml : List (Int × Mind)} {i now : Int} {tx : List UInt8} (h : i < 0) : rblkF ol ll ml i tx now = (ol, ll, ml, 7) := by unfold rblkF; rw [if_pos h]
theorem blk_sim {ol : List Ord} {lk ll : List (LK × Int)} {ml : List (Int × Mind)} {sq n b now : Int} {tx : List UInt8} (h : OInv ol sq) (hs : ∀ k, look ll k = look lk k) (hl : (ll.map Prod.fst).Nodup) (hk : (lk.map Prod.fst).Nodup) (hm : ∀ k, MOk (atM ml k)) {r : Ans} (hr : r = ansF ol n b) :
    BSim ol lk ll ml r tx (blkF (atM ml) ol lk r.1 r.2.1 r.2.2.1 r.2.2.2.1 tx now) (rblkF ol ll ml r.2.2.2.2 tx now) := by
  rcases ans_sim h hr with ⟨h1, h2⟩ | ⟨j, x, h1, h2, h3, h4, -, h5, h6, h7, h8⟩
  · rw [blk_none h2, rblk_7 h1]
    exact { err := rfl, ord := rfl, mind := rfl, same := hs, ndl := hl, ndk := hk, good := fun e => absurd e (show (7 : Int) ≠ 0 by decide), bad := fun _ => rfl, sub := List.Sublist.refl _, len := Nat.le_succ _, lenm := Nat.le_succ _, ok := hm, five := fun _ e => e }
  · have hsub := List.eraseIdx_sublist ol j
    obtain ⟨fr, sq2, id, what, i⟩ := r
    simp only at h1 h5 h6 h7 h8
    subst h1; subst h5; subst h6; subst h7
    by_cases c1 : oidF x.1.1 tx ≠ x.1.2.1.1
    · rw [blk_3 h8 c1, rblk_3 h4 c1]
      have q1 := atM_ban ml x.2.1 (x.1.1, x.1.2.1.1, tx)
      have q2 := @banL_len ml x.2.1 (x.1.1, x.1.2.1.1, tx)
      have q3 := banL_ok (n := x.2.1) (p := (x.1.1, x.1.2.1.1, tx)) hm x.1.2.1.2
      have q4 := @banL_5 ml x.2.1 (x.1.1, x.1.2.1.1, tx)
      generalize banL ml x.2.1 (x.1.1, x.1.2.1.1, tx) = B at q1 q2 q3 q4 ⊢
      generalize banB (atM ml) x.2.1 (x.1.1, x.1.2.1.1, tx) = A at q1 ⊢
      exact { err := rfl, ord := rfl, mind := q1, same := hs, ndl := hl, ndk := hk, good := fun e => absurd e (show (3 : Int) ≠ 0 by decide), bad := fun _ => rfl, sub := hsub, len := Nat.le_succ _, lenm := q2, ok := q3, five := fun e e5 => q4 (fun e2 => e j x rfl h4 e2) e5 }
    · have c1' : oidF x.1.1 tx = x.1.2.1.1 := Decidable.not_not.1 c1
      by_cases c2 : x.1.2.2 < tx.length
      · rw [blk_5 h8 c1' (by rw [← h4]; exact c2), rblk_5 h4 c1' c2]
        exact { err := rfl, ord := rfl, mind := rfl, same := fun k => by
                  show look (setK ll (x.2.1, x.1.2.1) (now + 12)) k = look (Cv.put lk (x.2.1, x.1.2.1) (now + 12)) k
                  rw [look_setK, look_put, hs], ndl := nd_setK hl, ndk := nodup_put hk, good := fun e => absurd e (show (5 : Int) ≠ 0 by decide), bad := fun _ => rfl, sub := hsub, len := setK_len, lenm := Nat.le_succ _, ok := hm, five := fun _ e => e }
      · rw [blk_0 h8 c1' (by rw [← h4]; exact c2), rblk_0 h4 c1' c2]
        exact { err := rfl, ord := rfl, mind := atM_setF ml x.2.1 (goodM (atM ml x.2.1)), same := hs, ndl := hl, ndk := hk, good := fun _ => ⟨rfl, c1'⟩, bad := fun e => absurd rfl e, sub := hsub, len := Nat.le_succ _, lenm := setL_len, ok := goodL_ok hm, five := fun _ e => goodL_5 e }
theorem miss_sim {ol : List Ord} {lk ll : List (LK × Int)} {sq n b now : Int} (h : OInv ol sq) (hs : ∀ k, look ll k = look lk k) (hl : (ll.map Prod.fst).Nodup) (hk : (lk.map Prod.fst).Nodup) {r : Ans} (hr : r = ansF ol n b) {B : Bool × List Ord × List (LK × Int)} (hB : B = missF ol lk r.1 r.2.1 r.2.2.1 r.2.2.2.1 now) {R : List Ord × List (LK × Int)} (hR : R = rmissF ol ll r.2.2.2.2 now) :
    B.1 = decide (0 ≤ r.2.2.2.2) ∧ B.2.1 = R.1 ∧ (∀ k, look R.2 k = look B.2.2 k) ∧ (R.2.map Prod.fst).Nodup ∧ (B.2.2.map Prod.fst).Nodup ∧ R.1.Sublist ol ∧ R.2.length ≤ ll.length + 1 := by
  rcases ans_sim h hr with ⟨h1, h2⟩ | ⟨j, x, h1, h2, h3, h4, -, h5, h6, h7, h8⟩
  · have e1 : B = (false, ol, lk) := by rw [hB]; unfold missF; rw [if_pos (by rw [idxQ_none h2]; decide)]
    have e2 : R = (ol, ll) := by rw [hR]; unfold rmissF; rw [if_pos h1]
    rw [e1, e2]
    exact ⟨(decide_eq_false (by omega)).symm, rfl, hs, hl, hk, List.Sublist.refl _, Nat.le_succ _⟩
  · have hn : ¬ idxQ (mB r.1 r.2.1 r.2.2.1.1 r.2.2.2.1) ol < 0 := by omega
    have ht : (idxQ (mB r.1 r.2.1 r.2.2.1.1 r.2.2.2.1) ol).toNat = j := by omega
    have ht2 : (r.2.2.2.2).toNat = j := by omega
    have e1 : B = (true, ol.eraseIdx j, Cv.put lk (x.2.1, x.1.2.1) (now + 12)) := by rw [hB]; unfold missF; rw [if_neg hn, ht, h5, h6]
    have e2 : R = (ol.eraseIdx j, setK ll (x.2.1, x.1.2.1) (now + 12)) := by rw [hR]; unfold rmissF; rw [if_neg (by omega), ht2, ← h4]
    rw [e1, e2]
    refine ⟨(decide_eq_true (by omega)).symm, rfl, fun k => ?_, nd_setK hl, nodup_put hk, List.eraseIdx_sublist .., setK_len⟩
    show look (setK ll (x.2.1, x.1.2.1) (now + 12)) k = look (Cv.put lk (x.2.1, x.1.2.1) (now + 12)) k
    rw [look_setK, look_put, hs]
theorem sil_sim {now : Int} : ∀ {xs : List Ord} {ml : List (Int × Mind)}, xs.foldl (silS now) (atM ml) = atM (xs.foldl (silL now) ml)
  | [], _ => rfl
  | x :: xs, ml => by
    rw [List.foldl_cons, List.foldl_cons, ← sil_sim]
    congr 1
    unfold silS silL
    exact atM_setF ..
theorem delS_sim {now : Int} {ol : List Ord} {ml : List (Int × Mind)} : delS (lateB now) (silS now) (atM ml) ol = atM (delS (lateB now) (silL now) ml ol) := sil_sim
theorem sil_5 {now : Int} : ∀ {xs : List Ord} {ml : List (Int × Mind)}, (atM ml 5).2.2.2 = none → (atM (xs.foldl (silL now) ml) 5).2.2.2 = none
  | [], _, h => h
  | x :: xs, ml, h => by
    refine sil_5 (xs := xs) (ml := silL now ml x) ?_
    unfold silL
    rw [atM_set]; unfold updM; split
    · rename_i e; rw [← e]; exact h
    · exact h
theorem keep_sim {ws : List Wnt} {ol : List Ord} : ol.filter (keepI (ws.map fun w => w.2.1)) = ol.filter (keepB ws) := by
  refine List.filter_congr fun x _ => ?_
  unfold keepI keepB
  rw [Bool.eq_iff_iff, decide_eq_true_iff, idxQ_ge, List.any_eq_true]
  constructor
  · rintro ⟨y, hy, e⟩
    obtain ⟨w, hw, rfl⟩ := List.mem_map.1 hy
    exact ⟨w, hw, decide_eq_true (of_decide_eq_true e).symm⟩
  · rintro ⟨w, hw, e⟩
    exact ⟨w.2.1, List.mem_map.2 ⟨w, hw, rfl⟩, decide_eq_true (of_decide_eq_true e).symm⟩
/-! ### all of it -/
structure SS where
  ol : List Ord
  ml : List (Int × Mind)
  lk : List (LK × Int)
  ll : List (LK × Int)
  sq : Int
  now : Int
structure SInv (s : SS) (i : Nat) : Prop where
  o : OInv s.ol s.sq
  lm : s.ml.length ≤ 8 * i
  lc : s.ll.length ≤ i
  ok : ∀ k, MOk (atM s.ml k)
  same : ∀ k, look s.ll k = look s.lk k
  ndl : (s.ll.map Prod.fst).Nodup
  ndk : (s.lk.map Prod.fst).Nodup
  sq0 : 0 ≤ s.sq ∧ s.sq ≤ 12 * i
  now0 : 0 ≤ s.now ∧ s.now ≤ 15 * i
theorem SInv.init : SInv ⟨[], [], [], [], 0, 0⟩ 0 := ⟨OInv.nil, by simp, by simp, fun k => zM_ok, fun _ => rfl, by simp, by simp, by simp, by simp⟩
theorem SInv.up {s : SS} {i : Nat} (h : SInv s i) : SInv s (i + 1) := ⟨h.o, by have := h.lm; omega, by have := h.lc; omega, h.ok, h.same, h.ndl, h.ndk, by have := h.sq0; omega, by have := h.now0; omega⟩
def JOk (s : SS) (z : AR25) (ml : List (Int × Mind)) : Prop :=
  (z.1.1 = 2 → 0 < s.ol.length → (gd s.ol (pickN s.ol z.1.2.1)).2.1 = 5 → z.2.2.2 = []) → (atM s.ml 5).2.2.2 = none → (atM ml 5).2.2.2 = none


end Cv
