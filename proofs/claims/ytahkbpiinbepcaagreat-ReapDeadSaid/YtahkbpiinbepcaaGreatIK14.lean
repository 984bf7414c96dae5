/-
  The walks: the order of paths.
-/
import Derived.Test.YtahkbpiinbepcaaGreatFH14
import Derived.Test.YtahkbpiinbepcaaGreatProg
import Derived.KernelRfl
import Derived.Test.YtahkbpiinbepcaaGreatAC14
import Derived.Test.YtahkbpiinbepcaaGreatZa15
set_option linter.unusedVariables false
set_option linter.unusedSimpArgs false
set_option linter.unusedSectionVars false
set_option maxHeartbeats 400000
set_option maxRecDepth 10000
namespace Cv
open Go Go.Proofs
theorem rf_md14 {n : Nat} (h : n < 8) {r : ID32} (hr : r ∈ (md n).2.1) : ∃ k, k < n ∧ r = nm k := by
  rw [md_refs h] at hr
  obtain ⟨k, hk, e⟩ := List.mem_map.1 (((sortF_names _).mem r).1 hr)
  exact ⟨k, pkF_lt hk, e.symm⟩
/-! ### no two of the eight names are one -/
theorem wrS_l14 {n : Nat} (h : n < 8) : mdZ n + 4 ≤ (wrS (mdX n)).length ∧ (wrS (mdX n)).length ≤ mdZ n + 22 := by
  have hz := mdZ_8 h
  have h1 := numB_len (n := 1) (by decide)
  have h2 := numB_len (n := mdZ n) (by omega)
  have hm : mark.length = 4 := rfl
  rw [(wr_md h).1, List.length_append, put_md, List.length_append, List.length_append, mdB_len]; omega
theorem nm_lt14 {k n : Nat} (hn : n < 8) (hk : k < n) : nm k ≠ nm n := fun e => by
  have hk8 : k < 8 := by omega
  have c := con hk8 hn (pth_in hk8).1 (pth_in hn).1 (by rw [pth_id, pth_id, e])
  have a := pth_par hk8
  rw [c, pth_par hn] at a
  have b : (md n).1 = (md k).1 := congrArg (fun x : Pt × List ID32 × Int => x.1) a
  have s1 := (md_root hn).2.2
  have s2 := (md_root hk8).2.2
  rw [b, s2] at s1
  have l1 := wrS_l14 hn
  have l2 := wrS_l14 hk8
  have sq : (k + 1) * (k + 1) ≤ n * n := Nat.mul_le_mul hk hk
  have e3 : (k + 1) * (k + 1) = k * k + 2 * k + 1 := by rw [Nat.add_mul, Nat.mul_add]; omega
  unfold mdZ at l1 l2
  omega
/-! ## what is dead: the plain law -/
def PlI (pl : IvM) : Prop := ∀ e ∈ pl, ∃ k, k < 8 ∧ e.1 = nm k ∧ e.2.1 = ((md k).1, (md k).2.1) ∧ e.2.2.2.1 ≤ 8
structure DI (pl : IvM) (os : List Ob) : Prop where
  pi : PlI pl
  cl : ∀ e ∈ pl, ∀ r ∈ e.2.1.2, look pl r ≠ none
  uni : Uni os
  shf : Shf os
  ob : ∀ e ∈ pl, ∀ k, k < 8 → e.1 = nm k → pth k ∈ os
theorem DI.start : DI [] [] := ⟨fun e h => (by cases h), fun e h => (by cases h), fun o h => (by cases h), fun o h => (by cases h), fun e h => (by cases h)⟩
theorem DI.more {pl : IvM} {os : List Ob} (h : DI pl os) {n : Nat} (hn : n < 8) : DI pl (os ++ (md n).2.2) :=
  ⟨h.pi, h.cl, uni_app h.uni (uni_md hn), fun o ho => (List.mem_append.1 ho).elim (h.shf o) (md_shf hn o), fun e he k hk ek => List.mem_append_left _ (h.ob e he k hk ek)⟩
theorem DI.add {pl : IvM} {os : List Ob} (h : DI pl os) {n : Nat} (hn : n < 8) {q : Option Addr × Nat × Nat} (hq : (md n).2.1.length = q.2.1) (hr : ∀ r ∈ (md n).2.1, look pl r ≠ none) : DI (put pl (nm n) (((md n).1, (md n).2.1), q)) (os ++ (md n).2.2) := by
  have hm := h.more hn
  have hl : ∀ r, look pl r ≠ none → look (put pl (nm n) (((md n).1, (md n).2.1), q)) r ≠ none := fun r k => by
    rw [look_put]; split
    · exact fun e => by cases e
    · exact k
  refine ⟨fun e he => ?_, fun e he r hr2 => hl r ?_, hm.uni, hm.shf, fun e he k hk ek => ?_⟩
  · rcases put_in he with c | c
    · rw [c]; exact ⟨n, hn, rfl, rfl, by show q.2.1 ≤ 8; rw [← hq]; exact md_len n⟩
    · exact h.pi e c
  · rcases put_in he with c | c
    · rw [c] at hr2; exact hr r hr2
    · exact h.cl e c r hr2
  · rcases put_in he with c | c
    · rw [c] at ek
      have e2 : nm n = nm k := ek
      have e3 := con hn hk (pth_in hn).1 (pth_in hk).1 (by rw [pth_id, pth_id, e2])
      exact List.mem_append_right _ (e3 ▸ (pth_in hn).1)
    · exact hm.ob e c k hk ek
theorem add_md {pl pl2 : IvM} {e : Int} {n : Nat} (hn : n < 8) (h : AddP pl (inT (md n).1 (md n).2.1) e pl2) : (e ≠ 0 ∧ pl2 = pl) ∨ (e = 0 ∧ ∃ q : Option Addr × Nat × Nat, (md n).2.1.length = q.2.1 ∧ (∀ r ∈ (md n).2.1, look pl r ≠ none) ∧ pl2 = put pl (nm n) (((md n).1, (md n).2.1), q)) := by
  have hp : parI (inT (md n).1 (md n).2.1) = ((md n).1, (md n).2.1, 0) := pth_par hn
  cases h with
  | bad h => rw [hp] at h; exact absurd rfl h
  | lack h k => exact .inl ⟨by decide, rfl⟩
  | add h k q hq =>
    rw [hp] at hq k ⊢
    refine .inr ⟨rfl, q, hq, fun r hr e => ?_, rfl⟩
    have : anyI (lakI pl) (md n).2.1 = true := List.any_eq_true.2 ⟨r, hr, by unfold lakI; rw [e]; rfl⟩
    rw [this] at k; cases k
theorem PlI.ok {pl : IvM} (h : PlI pl) : PlOk pl := fun e he => by
  obtain ⟨k, hk, -, h2, h3⟩ := h e he
  refine ⟨?_, Nat.le_trans h3 (by decide)⟩
  rw [h2, md_refs hk]; exact (sortF_names _).asc
theorem refs_md {pl : IvM} (h : PlI pl) {x r : ID32} (hr : r ∈ refsOf pl x) : ∃ k j, k < 8 ∧ x = nm k ∧ r ∈ (md k).2.1 ∧ j < k ∧ r = nm j := by
  unfold refsOf at hr
  cases e : look pl x with
  | none => rw [e] at hr; cases hr
  | some v =>
    rw [e] at hr
    obtain ⟨k, hk, h1, h2, -⟩ := h (x, v) (xC e)
    have h2 : v.1 = ((md k).1, (md k).2.1) := h2
    have hr : r ∈ v.1.2 := hr
    rw [h2] at hr
    obtain ⟨j, hj, e2⟩ := rf_md14 hk hr
    exact ⟨k, j, hk, h1, hr, hj, e2⟩
theorem PlI.r8 {pl : IvM} (h : PlI pl) : R8 pl := fun x => by
  unfold refsOf
  cases e : look pl x with
  | none => exact Nat.zero_le _
  | some v =>
    obtain ⟨k, hk, -, h2, -⟩ := h (x, v) (xC e)
    have h2 : v.1 = ((md k).1, (md k).2.1) := h2
    show v.1.2.length ≤ 8
    rw [h2]; exact md_len k
theorem nm_j {j k : Nat} (hj : j < 8) (hk : k < 8) (e : nm j = nm k) : j = k := by
  rcases Nat.lt_trichotomy j k with c | c | c
  · exact absurd e (nm_lt14 hk c)
  · exact c
  · exact absurd e.symm (nm_lt14 hj c)
theorem PlI.vd {pl : IvM} (h : PlI pl) : ∀ (f k : Nat), k < f → k < 8 → VD pl f (nm k)
  | 0, k, h1, _ => absurd h1 (Nat.not_lt_zero k)
  | f + 1, k, h1, h8 => fun r hr => by
    obtain ⟨k2, j, hk2, e, -, hj, e2⟩ := refs_md h hr
    have := nm_j h8 hk2 e
    rw [e2]; exact PlI.vd h f j (by omega) (by omega)
theorem PlI.key {pl : IvM} (h : PlI pl) {x : ID32} (hx : x ∈ pl.map Prod.fst) : ∃ k, k < 8 ∧ x = nm k := by
  obtain ⟨e, he, rfl⟩ := List.mem_map.1 hx
  obtain ⟨k, hk, h1, -⟩ := h e he
  exact ⟨k, hk, h1⟩
/-! ### the order -/
structure VOk (pl : IvM) (s r : VS) : Prop where
  go : (∀ i y, s.2[i]? = some y → ∀ q ∈ refsOf pl y, q ∈ s.2.take i) → ∀ i y, r.2[i]? = some y → ∀ q ∈ refsOf pl y, q ∈ r.2.take i
  nd : s.2.Nodup → (∀ z ∈ s.2, z ∈ s.1) → r.2.Nodup
  sub : (∀ z ∈ s.2, z ∈ s.1) → ∀ z ∈ r.2, z ∈ r.1
  m2 : ∀ z ∈ s.2, z ∈ r.2
  m1 : ∀ z ∈ s.1, z ∈ r.1
  un : ∀ z ∈ r.1, z ∈ r.2 ∨ (z ∈ s.1 ∧ z ∉ s.2)
  nw : ∀ z ∈ r.2, z ∈ s.2 ∨ z ∉ s.1
theorem VOk.refl {pl : IvM} (s : VS) : VOk pl s s := ⟨id, fun h _ => h, id, fun _ h => h, fun _ h => h, fun z h => (Classical.em (z ∈ s.2)).elim .inl fun q => .inr ⟨h, q⟩, fun _ h => .inl h⟩
theorem VOk.trans {pl : IvM} {s r t : VS} (h : VOk pl s r) (k : VOk pl r t) : VOk pl s t where
  go g := k.go (h.go g)
  nd a b := k.nd (h.nd a b) (h.sub b)
  sub a := k.sub (h.sub a)
  m2 z q := k.m2 z (h.m2 z q)
  m1 z q := k.m1 z (h.m1 z q)
  un z q := by
    rcases k.un z q with a | ⟨a, b⟩
    · exact .inl a
    · rcases h.un z a with c | c
      · exact absurd c b
      · exact .inr c
  nw z q := by
    rcases k.nw z q with a | a
    · exact h.nw z a
    · exact .inr fun b => a (h.m1 z b)
theorem take_app_mem {α : Type} {a b : List α} {i : Nat} {x : α} (h : x ∈ a.take i) : x ∈ (a ++ b).take i := by
  rw [List.take_append]; exact List.mem_append_left _ h
theorem vis_ok {pl : IvM} (hp : PlI pl) : ∀ (f k : Nat) (s : VS), k < f → k < 8 → (∀ j, j < 8 → nm j ∈ s.1 → nm j ∈ s.2 ∨ k < j) → (∀ z ∈ s.2, z ∈ s.1) → VOk pl s (visF pl f (nm k) s) ∧ nm k ∈ (visF pl f (nm k) s).2
  | 0, k, s, h, _, _, _ => absurd h (Nat.not_lt_zero k)
  | f + 1, k, s, h, h8, hst, hsb => by
    by_cases c : nm k ∈ s.1
    · rw [vis_s c]
      exact ⟨.refl s, (hst k h8 c).resolve_right (Nat.lt_irrefl k)⟩
    · obtain ⟨r, hr⟩ : ∃ r, r = (refsOf pl (nm k)).foldl (fun s y => visF pl f y s) (s.1 ++ [nm k], s.2) := ⟨_, rfl⟩
      rw [vis_n c hr]
      have key : ∀ (l : List ID32) (t : VS), (∀ q ∈ l, ∃ j, j < k ∧ q = nm j) → (∀ j, j < 8 → nm j ∈ t.1 → nm j ∈ t.2 ∨ k ≤ j) → (∀ z ∈ t.2, z ∈ t.1) → VOk pl t (l.foldl (fun s y => visF pl f y s) t) ∧ ∀ q ∈ l, q ∈ (l.foldl (fun s y => visF pl f y s) t).2 := fun l => by
        induction l with
        | nil => exact fun t _ _ _ => ⟨.refl t, fun q hq => by cases hq⟩
        | cons y l ih =>
          intro t hl ht hb
          obtain ⟨j, hj, rfl⟩ := hl y (List.mem_cons_self ..)
          obtain ⟨a1, a2⟩ := vis_ok hp f j t (by omega) (by omega) (fun i hi hit => (ht i hi hit).imp id fun q => by omega) hb
          obtain ⟨b1, b2⟩ := ih (visF pl f (nm j) t) (fun q hq => hl q (List.mem_cons_of_mem _ hq)) (fun i hi hit => by
            rcases a1.un _ hit with q | ⟨q1, q2⟩
            · exact .inl q
            · exact .inr ((ht i hi q1).resolve_left q2)) (a1.sub hb)
          rw [List.foldl_cons]
          refine ⟨a1.trans b1, fun q hq => ?_⟩
          rcases List.mem_cons.1 hq with e | e
          · rw [e]; exact b1.m2 _ a2
          · exact b2 q e
      obtain ⟨a, b⟩ := key (refsOf pl (nm k)) (s.1 ++ [nm k], s.2) (fun q hq => by
        obtain ⟨k2, j, hk2, e, -, hj, e2⟩ := refs_md hp hq
        have := nm_j h8 hk2 e
        exact ⟨j, by omega, e2⟩) (fun j hj hm => by
        rcases List.mem_append.1 hm with q | q
        · exact (hst j hj q).imp id Nat.le_of_lt
        · exact .inr (Nat.le_of_eq (nm_j h8 hj (List.mem_singleton.1 q).symm))) (fun z hz => List.mem_append_left _ (hsb z hz))
      rw [← hr] at a b
      have hx2 : nm k ∉ s.2 := fun q => c (hsb _ q)
      have hxr : nm k ∉ r.2 := fun q => by
        rcases a.nw _ q with e | e
        · exact hx2 e
        · exact e (List.mem_append_right _ (List.mem_singleton.2 rfl))
      refine ⟨⟨fun g i y hy q hq => ?_, fun g1 g2 => ?_, fun g z hz => ?_, fun z hz => List.mem_append_left _ (a.m2 z hz), fun z hz => a.m1 z (List.mem_append_left _ hz), fun z hz => ?_, fun z hz => ?_⟩, List.mem_append_right _ (List.mem_singleton.2 rfl)⟩
      · have hi := (List.getElem?_eq_some_iff.1 hy).1
        rw [List.length_append, List.length_singleton] at hi
        rcases Nat.lt_or_ge i r.2.length with d | d
        · rw [List.getElem?_append_left d] at hy
          exact take_app_mem (a.go g i y hy q hq)
        · obtain rfl : i = r.2.length := by omega
          rw [List.getElem?_append_right d, Nat.sub_self] at hy
          obtain rfl : nm k = y := by simpa using hy
          rw [List.take_left' rfl]; exact b q hq
      · have := a.nd g1 (fun z hz => List.mem_append_left _ (g2 z hz))
        exact List.nodup_append.2 ⟨this, by simp, fun x hx y hy => by rw [List.mem_singleton.1 hy]; exact fun e => hxr (e ▸ hx)⟩
      · rcases List.mem_append.1 hz with e | e
        · exact a.sub (fun z hz => List.mem_append_left _ (g z hz)) z e
        · rw [List.mem_singleton.1 e]; exact a.m1 _ (List.mem_append_right _ (List.mem_singleton.2 rfl))
      · rcases a.un z hz with e | ⟨e1, e2⟩
        · exact .inl (List.mem_append_left _ e)
        · rcases List.mem_append.1 e1 with d | d
          · exact .inr ⟨d, e2⟩
          · exact .inl (List.mem_append_right _ d)
      · rcases List.mem_append.1 hz with e | e
        · exact (a.nw z e).imp id fun q w => q (List.mem_append_left _ w)
        · rw [List.mem_singleton.1 e]; exact .inr c
theorem vis_in {pl : IvM} {Pr : ID32 → Prop} (hc : ∀ y, Pr y → ∀ r ∈ refsOf pl y, Pr r) : ∀ (f : Nat) (x : ID32) (s : VS), Pr x → (∀ z ∈ s.2, Pr z) → ∀ z ∈ (visF pl f x s).2, Pr z
  | 0, x, s, _, h => h
  | f + 1, x, s, hx, h => by
    have key : ∀ (l : List ID32) (t : VS), (∀ q ∈ l, Pr q) → (∀ z ∈ t.2, Pr z) → ∀ z ∈ (l.foldl (fun s y => visF pl f y s) t).2, Pr z := fun l => by
      induction l with
      | nil => exact fun t _ h => h
      | cons y l ih =>
        intro t hl ht
        rw [List.foldl_cons]
        exact ih _ (fun q hq => hl q (List.mem_cons_of_mem _ hq)) (vis_in hc f y t (hl y (List.mem_cons_self ..)) ht)
    rw [visF]; split
    · exact h
    · intro z hz
      rcases List.mem_append.1 hz with e | e
      · exact key (refsOf pl x) (s.1 ++ [x], s.2) (fun q hq => hc x hx q hq) h z e
      · rw [List.mem_singleton.1 e]; exact hx
theorem ord_in {pl : IvM} {us : List ID32} (h : OrdF pl us) {Pr : ID32 → Prop} (hc : ∀ y, Pr y → ∀ r ∈ refsOf pl y, Pr r) (hk : ∀ x ∈ pl.map Prod.fst, Pr x) : ∀ z ∈ us, Pr z := by
  obtain ⟨ks, k, rfl⟩ := h.ex
  have key : ∀ (l : List ID32) (t : VS), (∀ q ∈ l, Pr q) → (∀ z ∈ t.2, Pr z) → ∀ z ∈ (l.foldl (fun s y => visF pl 9 y s) t).2, Pr z := fun l => by
    induction l with
    | nil => exact fun t _ h => h
    | cons y l ih =>
      intro t hl ht
      rw [List.foldl_cons]
      exact ih _ (fun q hq => hl q (List.mem_cons_of_mem _ hq)) (vis_in hc 9 y t (hl y (List.mem_cons_self ..)) ht)
  exact key ks ([], []) (fun q hq => hk q ((k.mem q).1 hq)) (fun z h => by cases h)
structure OrdG (pl : IvM) (us : List ID32) : Prop where
  nd : us.Nodup
  all : ∀ x ∈ pl.map Prod.fst, x ∈ us
  go : ∀ i y, us[i]? = some y → ∀ q ∈ refsOf pl y, q ∈ us.take i
theorem ord_ok {pl : IvM} (hp : PlI pl) {us : List ID32} (h : OrdF pl us) : OrdG pl us := by
  obtain ⟨ks, k, rfl⟩ := h.ex
  have key : ∀ (l : List ID32) (t : VS), (∀ q ∈ l, ∃ j, j < 8 ∧ q = nm j) → (∀ z ∈ t.1, z ∈ t.2) → (∀ z ∈ t.2, z ∈ t.1) → VOk pl t (l.foldl (fun s y => visF pl 9 y s) t) ∧ ∀ q ∈ l, q ∈ (l.foldl (fun s y => visF pl 9 y s) t).2 := fun l => by
    induction l with
    | nil => exact fun t _ _ _ => ⟨.refl t, fun q hq => by cases hq⟩
    | cons y l ih =>
      intro t hl ht hb
      obtain ⟨j, hj, rfl⟩ := hl y (List.mem_cons_self ..)
      obtain ⟨a1, a2⟩ := vis_ok hp 9 j t (by omega) hj (fun i _ hit => .inl (ht _ hit)) hb
      obtain ⟨b1, b2⟩ := ih (visF pl 9 (nm j) t) (fun q hq => hl q (List.mem_cons_of_mem _ hq)) (fun z hz => by
        rcases a1.un z hz with q | ⟨q1, q2⟩
        · exact q
        · exact absurd (ht z q1) q2) (a1.sub hb)
      rw [List.foldl_cons]
      refine ⟨a1.trans b1, fun q hq => ?_⟩
      rcases List.mem_cons.1 hq with e | e
      · rw [e]; exact b1.m2 _ a2
      · exact b2 q e
  obtain ⟨a, b⟩ := key ks ([], []) (fun q hq => hp.key ((k.mem q).1 hq)) (fun z h => by cases h) (fun z h => by cases h)
  exact ⟨a.nd List.nodup_nil (fun z h => by cases h), fun x hx => b x ((k.mem x).2 hx), a.go (fun i y h => by simp at h)⟩


end Cv
set_option maxRecDepth 10000
namespace Cv
open Go Go.Proofs
/-! ### what is dead goes, one by one -/
theorem del_sub {l : IvM} {k : ID32} : (del l k).Sublist l := by
  induction l with
  | nil => exact List.Sublist.refl _
  | cons p l ih =>
    obtain ⟨k1, u⟩ := p
    rw [del]; split
    · exact List.sublist_cons_self _ _
    · exact ih.cons_cons _
theorem del_len {l : IvM} {k : ID32} (h : look l k ≠ none) : (del l k).length + 1 = l.length := by
  induction l with
  | nil => exact absurd rfl h
  | cons p l ih =>
    obtain ⟨k1, u⟩ := p
    rw [del]; split
    · rfl
    · rename_i c
      rw [look, if_neg c] at h
      rw [List.length_cons, List.length_cons, ih h]
def dls (pl : IvM) (ds : List ID32) : IvM := ds.foldl del pl
theorem dls_s {pl : IvM} {ds : List ID32} {j : Nat} {x : ID32} (h : ds[j]? = some x) : dls pl (ds.take (j + 1)) = del (dls pl (ds.take j)) x := by
  unfold dls; rw [List.take_add_one, h, List.foldl_append]; rfl
theorem dls_sub : ∀ (ds : List ID32) (pl : IvM), (dls pl ds).Sublist pl
  | [], pl => List.Sublist.refl _
  | d :: ds, pl => (dls_sub ds (del pl d)).trans del_sub
theorem dls_mem {pl : IvM} {ds : List ID32} {e : ID32 × IV} (h : e ∈ dls pl ds) : e ∈ pl := (dls_sub ds pl).subset h
theorem dls_nd {pl : IvM} (ds : List ID32) (h : (pl.map Prod.fst).Nodup) : ((dls pl ds).map Prod.fst).Nodup := ((dls_sub ds pl).map Prod.fst).nodup h
theorem dls_look : ∀ (ds : List ID32) (pl : IvM) (x : ID32), (pl.map Prod.fst).Nodup → look (dls pl ds) x = if x ∈ ds then none else look pl x
  | [], pl, x, _ => by rw [if_neg (by simp)]; rfl
  | d :: ds, pl, x, h => by
    have a := dls_look ds (del pl d) x ((del_sub.map Prod.fst).nodup h)
    show look (dls (del pl d) ds) x = _
    rw [a, look_del h]
    by_cases c : x ∈ ds
    · rw [if_pos c, if_pos (List.mem_cons_of_mem _ c)]
    · rw [if_neg c]
      by_cases e : x = d
      · rw [if_pos e, if_pos (by rw [e]; exact List.mem_cons_self ..)]
      · rw [if_neg e, if_neg (fun q => (List.mem_cons.1 q).elim e c)]
theorem dls_len : ∀ (ds : List ID32) (pl : IvM), (pl.map Prod.fst).Nodup → ds.Nodup → (∀ x ∈ ds, look pl x ≠ none) → (dls pl ds).length + ds.length = pl.length
  | [], pl, _, _, _ => rfl
  | d :: ds, pl, h, hn, hk => by
    have hc := List.nodup_cons.1 hn
    have a := dls_len ds (del pl d) ((del_sub.map Prod.fst).nodup h) hc.2 (fun x hx => by
      rw [look_del h, if_neg (fun e : x = d => hc.1 (e ▸ hx))]; exact hk x (List.mem_cons_of_mem _ hx))
    have b := del_len (hk d (List.mem_cons_self ..))
    show (dls (del pl d) ds).length + (ds.length + 1) = pl.length
    omega
theorem rev_before {us : List ID32} {p : ID32 → Bool} (hn : us.Nodup) {i : Nat} {x y : ID32} (hy : us[i]? = some y) (hx : x ∈ us.take i) (py : p y = true) {j : Nat} (hj : (us.reverse.filter p)[j]? = some x) : y ∈ (us.reverse.filter p).take j := by
  have hi := (List.getElem?_eq_some_iff.1 hy).1
  have e1 : us[i] = y := (List.getElem?_eq_some_iff.1 hy).2
  obtain ⟨B, hB⟩ : ∃ B, B = us.drop (i + 1) := ⟨_, rfl⟩
  have e : us = us.take i ++ y :: B := by rw [hB, ← e1, ← List.drop_eq_getElem_cons hi, List.take_append_drop]
  obtain ⟨A, hA⟩ : ∃ A, A = us.take i := ⟨_, rfl⟩
  rw [← hA] at e hx
  have hr : us.reverse.filter p = (B.reverse.filter p ++ [y]) ++ A.reverse.filter p := by
    rw [e, List.reverse_append, List.reverse_cons, List.filter_append, List.filter_append]
    congr 1; congr 1; simp [py]
  rw [hr] at hj ⊢
  rw [e] at hn
  obtain ⟨n1, n2, n3⟩ := List.nodup_append.1 hn
  have hl : (B.reverse.filter p ++ [y]).length ≤ j := Decidable.byContradiction fun c => by
    rw [List.getElem?_append_left (by omega)] at hj
    have m := List.mem_of_getElem? hj
    rcases List.mem_append.1 m with q | q
    · exact n3 x hx x (List.mem_cons_of_mem _ (List.mem_reverse.1 (List.mem_filter.1 q).1)) rfl
    · exact n3 x hx y (List.mem_cons_self ..) (List.mem_singleton.1 q)
  rw [List.take_append, List.take_of_length_le hl]
  exact List.mem_append_left _ (List.mem_append_right _ (List.mem_singleton.2 rfl))
theorem KeysF.uniq {ks us vs : List ID32} (h : KeysF ks us) (k : KeysF ks vs) : us = vs := asc_uniq h.asc k.asc fun z => (h.mem z).trans (k.mem z).symm
theorem LivF.uniq {os : List Ob} {hl al : SnM} {u v : List ID32} (h : LivF os hl al u) (k : LivF os hl al v) : u = v := by
  obtain ⟨h1, q1, a1, b1, c1⟩ := h.ex
  obtain ⟨h2, q2, a2, b2, c2⟩ := k.ex
  rw [a1.uniq a2, b1.uniq b2] at c1
  exact c1.uniq c2
theorem lk_pl {pl : IvM} {os : List Ob} (h : DI pl os) {y : ID32} {v : IV} (hv : (y, v) ∈ pl) : lkR os y = (v.1.1, v.1.2, true) := by
  obtain ⟨k, hk, h1, h2, -⟩ := h.pi (y, v) hv
  have h1 : y = nm k := h1
  have h2 : v.1 = ((md k).1, (md k).2.1) := h2
  rw [h1, lk_yes h.uni hk (h.ob (y, v) hv k hk h1), h2]
theorem lv_cl {pl : IvM} {os : List Ob} {hl al : SnM} {lv : List ID32} (h : DI pl os) (k : LivF os hl al lv) {y r : ID32} {v : IV} (hy : y ∈ lv) (hv : (y, v) ∈ pl) (hr : r ∈ v.1.2) : r ∈ lv := by
  obtain ⟨hs, qs, -, -, c⟩ := k.ex
  have e := lk_pl h hv
  exact (c.mem r).2 (.step ((c.mem y).1 hy) (by rw [e]) (by rw [e]; exact hr))
theorem lv_held {os : List Ob} {hl al : SnM} {lv : List ID32} (k : LivF os hl al lv) {x : ID32} (h : look hl x ≠ none) : x ∈ lv := by
  obtain ⟨hs, qs, a, -, c⟩ := k.ex
  refine (c.mem x).2 (.base (List.mem_append_left _ ((a.mem x).2 ?_)))
  cases e : look hl x with
  | none => exact absurd e h
  | some v => exact List.mem_map.2 ⟨(x, v), xC e, rfl⟩
theorem key_look {pl : IvM} {x : ID32} (h : x ∈ pl.map Prod.fst) : look pl x ≠ none := fun e => look_none_iff.1 e h
structure GoI (pl : IvM) (os : List Ob) (hl al : SnM) (lv us : List ID32) : Prop where
  di : DI pl os
  nd : (pl.map Prod.fst).Nodup
  lv : LivF os hl al lv
  od : OrdF pl us
theorem GoI.key {pl : IvM} {os : List Ob} {hl al : SnM} {lv us : List ID32} (h : GoI pl os hl al lv us) : ∀ x ∈ us, look pl x ≠ none := ord_in h.od (fun y _ r hr => by
  unfold refsOf at hr
  cases e : look pl y with
  | none => rw [e] at hr; cases hr
  | some v => rw [e] at hr; exact h.di.cl (y, v) (xC e) r hr) fun x hx => key_look hx
theorem GoI.ddn {pl : IvM} {os : List Ob} {hl al : SnM} {lv us : List ID32} (h : GoI pl os hl al lv us) : (ddF lv us.reverse).Nodup := ((List.reverse_perm us).nodup_iff.2 (ord_ok h.di.pi h.od).nd).filter _
theorem dd_mem {lv us : List ID32} {x : ID32} : x ∈ ddF lv us.reverse ↔ x ∈ us ∧ x ∉ lv := by
  unfold ddF; rw [List.mem_filter, List.mem_reverse, decide_eq_true_eq]
theorem GoI.step {pl : IvM} {os : List Ob} {hl al : SnM} {lv us : List ID32} (h : GoI pl os hl al lv us) {j : Nat} {x : ID32} (g : (ddF lv us.reverse)[j]? = some x) : x ∉ lv ∧ look hl x = none ∧ look (dls pl ((ddF lv us.reverse).take j)) x ≠ none ∧ ¬ refBy (dls pl ((ddF lv us.reverse).take j)) x := by
  have hm := List.mem_of_getElem? g
  obtain ⟨hu, hl2⟩ := dd_mem.1 hm
  have o := ord_ok h.di.pi h.od
  have hn := h.ddn
  have hx2 : x ∉ (ddF lv us.reverse).take j := fun q => by
    obtain ⟨i, hi⟩ := List.getElem?_of_mem q
    have hil := (List.getElem?_eq_some_iff.1 hi).1
    rw [List.length_take] at hil
    rw [List.getElem?_take_of_lt (by omega)] at hi
    have a := (List.getElem?_eq_some_iff.1 hi)
    have b := (List.getElem?_eq_some_iff.1 g)
    have := (List.getElem_inj (h₀ := a.1) (h₁ := b.1) hn).1 (a.2.trans b.2.symm)
    omega
  refine ⟨hl2, Decidable.byContradiction fun c => hl2 (lv_held h.lv c), by rw [dls_look _ _ _ h.nd, if_neg hx2]; exact h.key x hu, ?_⟩
  rintro ⟨e, he, hr⟩
  have hy := look_of_mem (dls_nd _ h.nd) (k := e.1) (v := e.2) he
  have hpl := dls_mem he
  have hyd : e.1 ∉ (ddF lv us.reverse).take j := fun q => by
    rw [dls_look _ _ _ h.nd, if_pos q] at hy; cases hy
  have hyl : e.1 ∉ lv := fun q => hl2 (lv_cl h.di h.lv q (v := e.2) hpl hr)
  have hyu : e.1 ∈ us := o.all _ (List.mem_map.2 ⟨e, hpl, rfl⟩)
  obtain ⟨i, hi⟩ := List.getElem?_of_mem hyu
  have hrf : x ∈ refsOf pl e.1 := by
    unfold refsOf
    rw [look_of_mem h.nd (k := e.1) (v := e.2) hpl]; exact hr
  exact hyd (rev_before o.nd hi (o.go i _ hi x hrf) (decide_eq_true hyl) g)
theorem GoI.left {pl : IvM} {os : List Ob} {hl al : SnM} {lv us : List ID32} (h : GoI pl os hl al lv us) {x : ID32} (hx : x ∈ (dls pl (ddF lv us.reverse)).map Prod.fst) : x ∈ lv := Decidable.byContradiction fun c => by
  have a := key_look hx
  rw [dls_look _ _ _ h.nd] at a
  have hu : x ∈ us := (ord_ok h.di.pi h.od).all x (by
    obtain ⟨e, he, e2⟩ := List.mem_map.1 hx
    exact List.mem_map.2 ⟨e, dls_mem he, e2⟩)
  rw [if_pos (dd_mem.2 ⟨hu, c⟩)] at a
  exact a rfl
theorem GoI.len {pl : IvM} {os : List Ob} {hl al : SnM} {lv us : List ID32} (h : GoI pl os hl al lv us) : (dls pl (ddF lv us.reverse)).length + (ddF lv us.reverse).length = pl.length := dls_len _ _ h.nd h.ddn fun x hx => h.key x (dd_mem.1 hx).1
theorem GoI.none {pl : IvM} {os : List Ob} {hl al : SnM} {lv us us2 : List ID32} (h : GoI pl os hl al lv us) (k : OrdF (dls pl (ddF lv us.reverse)) us2) : ddF lv us2.reverse = [] := by
  have a : ∀ z ∈ us2, z ∈ lv := ord_in k (Pr := (· ∈ lv)) (fun y hy r hr => by
    unfold refsOf at hr
    cases e : look (dls pl (ddF lv us.reverse)) y with
    | none => rw [e] at hr; cases hr
    | some v => rw [e] at hr; exact lv_cl h.di h.lv hy (dls_mem (xC e)) hr) fun x hx => h.left hx
  refine List.eq_nil_iff_forall_not_mem.2 fun z hz => ?_
  obtain ⟨b, c⟩ := dd_mem.1 hz
  exact c (a z b)
theorem PlI.sub {pl ql : IvM} (h : PlI pl) (k : ∀ e ∈ ql, e ∈ pl) : PlI ql := fun e he => h e (k e he)
theorem PlI.vd9 {pl : IvM} (h : PlI pl) : ∀ x ∈ pl.map Prod.fst, VD pl 9 x := fun x hx => by
  obtain ⟨k, hk, rfl⟩ := h.key hx
  exact h.vd 9 k (by omega) hk
theorem put_len14 {κ ν : Type} [DecidableEq κ] {l : List (κ × ν)} {k : κ} {v : ν} : (put l k v).length ≤ l.length + 1 := by
  have h := congrArg List.length (keys_put (l := l) (k := k) (v := v))
  rw [List.length_map] at h
  split at h
  · rw [List.length_map] at h; omega
  · rw [List.length_append, List.length_map, List.length_singleton] at h; omega


end Cv
set_option maxRecDepth 10000
namespace Cv
open Go Go.Proofs

theorem dead_law {ha aa : Option Addr} {hn hc an ac : Nat} {hd qd : List Int} {e : Int} (hzhd : ∀ z ∈ hd, -9223372036854775808 ≤ z ∧ z ≤ 9223372036854775807) (hzqd : ∀ z ∈ qd, -9223372036854775808 ≤ z ∧ z ≤ 9223372036854775807) (hhn : hn ≤ 4611686018427387904) (han : an ≤ 4611686018427387904) : Spec Tryz.prog 7 [.slice ha hn hc, .slice aa an ac, .int .i64 e] [rsl 1 ha hn hc (hd.map e3), rsl 1 aa an ac (qd.map e3)] [] (fun v D' M' => v = .bool true ∧ D' = [] ∧ M' = []) := by
 refine zC (n := 194) Tryz.func7 ?_
 intro σ D M
 refine yH (a := ha) (len := hn) (cap := hc) (rows := hd.map e3) qM (fun hhl hhc => ?_)
 rw [List.length_map] at hhl
 refine yH (a := aa) (len := an) (cap := ac) (rows := qd.map e3) qM (fun hql hqc => ?_)
 rw [List.length_map] at hql
 refine z6 (z8 (z9 rfl rfl (z7 (z4 (z6 (z6 (z8 (zW rfl (xu) qD qS (awake15_spec) jF ?_))))))))
 refine yX rfl rfl (z7 (z4 (ym rfl rfl ?_)))
 refine zm (z4 (z6 (z8 (zx rfl (xu) qD qS (rgnew_spec) ?_))))
 rintro _ _ _ ⟨br, bp, bh, ba, rfl, rfl, rfl⟩
 refine zt qA qA ?_
 refine z9 rfl rfl (z7 (y1 (A := cl br 136 (rgC bp bh ba)) qP ?_))
 refine T.fcsNil ?_
 refine T.fcsSub (L := []) (L' := ([] : IvM).map iF) (fun χ hχ => (by cases hχ)) qM ?_
 refine z4 (z6 (z8 (yw rfl bu26 (zO (out := [Value.slice none 0 0]) rfl) ?_)))
 refine zL rfl ze26 (fun b8 => ?_)
 refine zE ag26 rfl rfl qL qO qU qW ?_
 refine z7 (yF (sz := 34) (e := 45) ?_)
 refine zZ qP (show own 34 45 none 0 0 [] = own 34 45 none 0 0 ((([] : List Ob)).map obC) from rfl) ?_
 refine z4 (z6 (z6 (z8 (z5 rfl rfl (z7 (z4 (zr (zX (fun K' D' M' μ => ∃ (i sn sc : Nat) (sa : Option Addr) (pl : IvM) (os : List Ob), (i ≤ 8 ∧ DI pl os ∧ pl.length ≤ i ∧ os.length = sn ∧ sn ≤ 70 * i) ∧ K' = [(33, .int .i64 (i : Int))] ∧ D' = [ifs pl] ∧ M' = [cl b8 26 [.slice sa sn sc], own 34 45 sa sn sc ((os).map obC), mp bp aK ivV pl] ∧ μ = 8 - i) (.c 0 rfl <| .c 1 rfl <| .c 2 rfl <| .c 7 rfl <| .c 8 rfl <| za _) (⟨0, 0, 0, none, [], [], ⟨Nat.zero_le _, .start, Nat.le_refl _, rfl, Nat.le_refl _⟩, rfl, rfl, rfl, rfl⟩) (.c 33 rfl <| za _) qD qS ?_))))))))
 rintro K1 D1 M1 m1 ⟨i, sn, sc, sa, pl, os, ⟨hi, hDI, hpl, hsl, hs70⟩, rfl, rfl, rfl, rfl⟩
 refine zF qA qA qA ?_
 refine z6 (z8 (zQ rfl rfl rfl (z7 (z4 (z6 (zo rfl (fun h34 => ?_) (fun h34 => ?_)))))))
 ·try simp only [dq] at h34
  refine zm (z4 (z6 (zr (z6 (z8 (z5 rfl rfl (z9 rfl rfl (z7 (z4 (z6 ?_))))))))))
  have hi8 : i < 8 := by omega
  refine z8 (z5 rfl rfl (zx rfl (ev1 rfl) qD qS (made_spec (z := (i : Int)) jO) ?_))
  rintro _ _ _ ⟨xa, xb, xl, xc, xo, xd, rfl, hxl, hxo, rfl, rfl⟩
  refine zt qA qA ?_
  rw [show (((i : Nat) : Int) % 8).toNat = i from by omega] at hxl hxo ⊢
  have hx8 := md_len i
  have hxs := md_sz i
  have hx7 := md_olen hi8
  have hmore := hDI.more hi8
  have hadm := @add_md pl
  obtain ⟨X, hX⟩ : ∃ x, x = md i := ⟨_, rfl⟩
  rw [← hX] at hxl hxo hx8 hxs hx7 hmore ⊢
  have hinx := inC_len X.1 xa xl xc
  have hpx := X.1.1.2
  refine z5 rfl rfl (zG rfl rfl rfl (zG rfl rfl rfl (zL rfl ze54 (fun b10 => ?_))))
  refine zE y9 rfl rfl qL qO qU qW ?_
  refine z9 rfl rfl (z7 (y1 (A := cl b10 54 (inC X.1 xa xl xc)) qP ?_))
  refine z4 (z6 (z6 (z8 (z5 rfl rfl (z5 rfl rfl (yx rfl rfl rfl (z7 (z4 (zo rfl (fun h43 => ?_) (fun h43 => ?_))))))))))
  ·try simp only [dq] at h43
   refine z6 (z8 (z5 rfl rfl (zp rfl y9 rfl qN ?_)))
   refine zW rfl (ev1 rfl) qD qS (adds_spec (p := X.1) (l := X.2.1) jO jO) jF ?_
   refine zx rfl (ev2 rfl rfl) qD qS (do2_spec (hl := []) (al := []) (pl := pl) (s := inT X.1 X.2.1) (by have := inT_len (p := X.1) (l := X.2.1) jO jO; omega)) ?_
   rintro _ _ _ ⟨e2, pl2, rfl, hadd, rfl, rfl⟩
   refine zt qA qA ?_
   rw [hX] at hadd
   have hadd2 := hadm hi8 hadd
   refine yx rfl rfl rfl (z7 (z4 (zo rfl (fun h48 => ?_) (fun h48 => ?_))))
   ·try simp only [dq] at h48
    obtain rfl : pl = pl2 := ((hadd2.resolve_right (fun q => h48 q.1)).2).symm
    refine zR (zq (zS (z4 (z8 (zH rfl rfl rfl jO ?_)))))
    exact z5 rfl rfl (z7 (z4 (zM ⟨i + 1, sn, sc, sa, pl, os, ⟨by omega, hDI, by omega, hsl, by omega⟩, rfl, rfl, rfl, rfl⟩ qI (.c 33 rfl <| za _) (.c 0 rfl <| .c 1 rfl <| .c 2 rfl <| .c 7 rfl <| .c 8 rfl <| za _) qD qD qF)))
   ·try simp only [dq] at h48
    obtain ⟨-, q, hq1, hq2, hq3⟩ := hadd2.resolve_left (fun q => q.1 (Decidable.not_not.1 h48))
    have hnew : DI pl2 (os ++ X.2.2) := by rw [hq3, hX]; exact hDI.add hi8 hq1 hq2
    have hnl : pl2.length ≤ pl.length + 1 := by rw [hq3]; exact put_len14
    refine zm (z4 (z8 (zj rfl fo26_0 rfl ?_)))
    refine zh rfl sc24 rfl qC ?_
    refine z5 rfl rfl (xy rfl x9 x9 el45 rfl rfl qP (rd_D qM) one_obs qI qI (fun a52 c52 => ?_))
    refine zj rfl fo26_0 rfl ?_
    refine yv sc24 rfl rfl rfl qU qE ?_
    refine z7 (zI (z4 (z8 (zH rfl rfl rfl jO ?_))))
    refine z5 rfl rfl (z7 (z4 (y4 _ ((os ++ X.2.2).map obC) qP (by rw [List.map_append]) ?_)))
    exact zM ⟨i + 1, sn + xo, _, _, pl2, os ++ X.2.2, ⟨by omega, hnew, by omega, by rw [List.length_append, hsl, hxo], by omega⟩, rfl, rfl, rfl, rfl⟩ qI (.c 33 rfl <| za _) (.c 0 rfl <| .c 1 rfl <| .c 2 rfl <| .c 7 rfl <| .c 8 rfl <| za _) qD qD qF
  ·try simp only [dq] at h43
   refine zm (z4 (z8 (zj rfl fo26_0 rfl ?_)))
   refine zh rfl sc24 rfl qC ?_
   refine z5 rfl rfl (xy rfl x9 x9 el45 rfl rfl qP (rd_D qM) one_obs qI qI (fun a52 c52 => ?_))
   refine zj rfl fo26_0 rfl ?_
   refine yv sc24 rfl rfl rfl qU qE ?_
   refine z7 (zI (z4 (z8 (zH rfl rfl rfl jO ?_))))
   refine z5 rfl rfl (z7 (z4 (y4 _ ((os ++ X.2.2).map obC) qP (by rw [List.map_append]) ?_)))
   exact zM ⟨i + 1, sn + xo, _, _, pl, os ++ X.2.2, ⟨by omega, hmore, by omega, by rw [List.length_append, hsl, hxo], by omega⟩, rfl, rfl, rfl, rfl⟩ qI (.c 33 rfl <| za _) (.c 0 rfl <| .c 1 rfl <| .c 2 rfl <| .c 7 rfl <| .c 8 rfl <| za _) qD qD qF
 ·try simp only [dq] at h34
  obtain rfl : i = 8 := by omega
  refine yD (rows := os.map obC) qP ?_
  refine y1 (A := cl b8 26 [.slice sa sn sc]) qP ?_
  refine zR (zq (zq (zS (z4 (z6 (z6 (z8 (z9 rfl rfl (z7 (z4 (zr (zX (fun K' D' M' μ => ∃ (i : Nat) (hl : SnM), (i ≤ 4 ∧ i ≤ hn ∧ hl.length ≤ i) ∧ K' = [(12, .int .i64 (i : Int))] ∧ D' = [] ∧ M' = [mp bp aK ivV pl, mp bh aK iK hl] ∧ μ = hn - i) (.c 0 rfl <| .c 1 rfl <| .c 7 rfl <| .c 8 rfl <| za _) (⟨0, [], ⟨Nat.zero_le _, Nat.zero_le _, Nat.le_refl _⟩, rfl, rfl, rfl, rfl⟩) (.c 12 rfl <| za _) qD qS ?_))))))))))))
  rintro K1 D1 M1 m1 ⟨i, hl, ⟨hi4, hih, hhl4⟩, rfl, rfl, rfl, rfl⟩
  refine zF qA qA qA ?_
  refine z6 (z6 (yu (fun K' D' M' => ∃ (w : Bool), (w = true ↔ (i < hn ∧ i < 4)) ∧ K' = [(62, .bool w)] ∧ D' = [] ∧ M' = []) (M0 := []) (.c 0 rfl <| .c 1 rfl <| .c 7 rfl <| .c 8 rfl <| .c 12 rfl <| za _) qS ?_ ?_))
  ·skip
   refine z8 (z5 rfl rfl (z5 rfl rfl (y2 rfl xE rfl (zQ rfl rfl rfl (z5 rfl rfl (yM (t := 59) rfl (fun h1 => ?_) (fun h1 => ?_)))))))
   ·try simp only [dq] at h1
    exact zf (dj := 59) rfl rfl rfl (z5 rfl rfl (zf (dj := 59) rfl rfl rfl (zQ rfl rfl rfl (ye rfl rfl rfl (z7 (z4 (zK ⟨_, (by simp_all <;> omega), rfl, rfl, rfl⟩ (.c 62 rfl <| za _) (.c 0 rfl <| .c 1 rfl <| .c 7 rfl <| .c 8 rfl <| .c 12 rfl <| za _) qD qD qF)))))))
   ·try simp only [dq] at h1
    exact zg (dj := 59) (c := false) rfl rfl rfl rfl rfl jD (zg (dj := 59) (c := false) rfl rfl rfl rfl rfl jD (y5 rfl rfl rfl (z7 (z4 (zK ⟨_, (by simp_all <;> omega), rfl, rfl, rfl⟩ (.c 62 rfl <| za _) (.c 0 rfl <| .c 1 rfl <| .c 7 rfl <| .c 8 rfl <| .c 12 rfl <| za _) qD qD qF)))))
  rintro _ _ _ ⟨w, hw, rfl, rfl, rfl⟩
  refine zF qA qA qA ?_
  refine z4 (zo rfl (fun h62 => ?_) (fun h62 => ?_))
  ·try simp only [dq] at h62
   have hwt := hw.1 h62
   refine zm (z4 (z6 (zr (z6 ?_))))
   have hgz : hd[i]? = some (gd hd i) := zJ jO
   obtain ⟨y, hz_⟩ : ∃ z, z = gd hd i := ⟨_, rfl⟩
   rw [← hz_] at hgz
   clear hz_
   have hrz : (hd.map e3)[i]? = some (e3 y) := zU hgz
   have hbz := hzhd y (List.mem_of_getElem? hgz)
   refine z8 (z5 rfl rfl (z5 rfl rfl (yI (i := i) rfl xE sz3 rfl rfl qM jR qG (fun b68 o68 => ?_))))
   refine zh rfl sc3 rfl qC ?_
   refine zx rfl (ev1 rfl) qD qS (made_spec hbz) ?_
   rintro _ _ _ ⟨xa, xb, xl, xc, xo, xd, rfl, hxl, hxo, rfl, rfl⟩
   refine zt qA qA ?_
   have hx8 := md_len (y % 8).toNat
   have hxs := md_sz (y % 8).toNat
   obtain ⟨X, hX⟩ : ∃ x, x = md (y % 8).toNat := ⟨_, rfl⟩
   rw [← hX] at hxl hxo hx8 hxs ⊢
   have hinx := inC_len X.1 xa xl xc
   have hpx := X.1.1.2
   obtain ⟨nn, hn_⟩ : ∃ x, x = inN X.1 X.2.1 := ⟨_, rfl⟩
   have hnn := nn.2
   have hn3 := zT nn
   refine z5 rfl rfl (zG rfl rfl rfl (zG rfl rfl rfl (zL rfl ze54 (fun b13 => ?_))))
   refine zE y9 rfl rfl qL qO qU qW ?_
   refine z9 rfl rfl (z7 (y1 (A := cl b13 54 (inC X.1 xa xl xc)) qP ?_))
   refine z4 (z8 (z5 rfl rfl (zp rfl y9 rfl qN ?_)))
   refine zW rfl (ev1 rfl) qD qS (iname_spec (l := X.2.1) (p := X.1) jO jO) jF ?_
   rw [← hn_]
   refine zW rfl (ev2 rfl rfl) qD qS (record_spec (k := 4) (x := nn)) jF ?_
   refine zx rfl (ev2 rfl rfl) qD qS (do4_spec (al := []) (pl := pl) (hl := hl) (x := nn)) ?_
   rintro _ _ _ ⟨rfl, rfl, rfl⟩
   refine zt qA qA ?_
   refine z7 (zI (z4 (z8 (z5 rfl rfl (zH rfl rfl rfl jO ?_)))))
   exact z9 rfl rfl (z7 (z4 (zM ⟨i + 1, (if look pl nn = none then hl else put hl nn 1), ⟨by omega, by omega, by split; omega; exact Nat.le_trans put_len14 jO⟩, rfl, rfl, rfl, rfl⟩ qI (.c 12 rfl <| za _) (.c 0 rfl <| .c 1 rfl <| .c 7 rfl <| .c 8 rfl <| za _) qD qD qF)))
  ·try simp only [dq] at h62
   refine zR (zq (zq (zS (z4 (z6 (z6 (z8 (z9 rfl rfl (z7 (z4 (zr (zX (fun K' D' M' μ => ∃ (i : Nat) (al : SnM), (i ≤ 4 ∧ i ≤ an ∧ al.length ≤ i) ∧ K' = [(15, .int .i64 (i : Int))] ∧ D' = [] ∧ M' = [mp bp aK ivV pl, mp ba aK iK al] ∧ μ = an - i) (.c 1 rfl <| .c 7 rfl <| .c 8 rfl <| za _) (⟨0, [], ⟨Nat.zero_le _, Nat.zero_le _, Nat.le_refl _⟩, rfl, rfl, rfl, rfl⟩) (.c 15 rfl <| za _) qD qS ?_))))))))))))
   rintro K1 D1 M1 m1 ⟨i, al, ⟨hia4, hia, hal4⟩, rfl, rfl, rfl, rfl⟩
   refine zF qA qA qA ?_
   refine z6 (z6 (yu (fun K' D' M' => ∃ (w : Bool), (w = true ↔ (i < an ∧ i < 4)) ∧ K' = [(85, .bool w)] ∧ D' = [] ∧ M' = []) (M0 := []) (.c 1 rfl <| .c 7 rfl <| .c 8 rfl <| .c 15 rfl <| za _) qS ?_ ?_))
   ·skip
    refine z8 (z5 rfl rfl (z5 rfl rfl (y2 rfl xE rfl (zQ rfl rfl rfl (z5 rfl rfl (yM (t := 82) rfl (fun h2 => ?_) (fun h2 => ?_)))))))
    ·try simp only [dq] at h2
     exact zf (dj := 82) rfl rfl rfl (z5 rfl rfl (zf (dj := 82) rfl rfl rfl (zQ rfl rfl rfl (ye rfl rfl rfl (z7 (z4 (zK ⟨_, (by simp_all <;> omega), rfl, rfl, rfl⟩ (.c 85 rfl <| za _) (.c 1 rfl <| .c 7 rfl <| .c 8 rfl <| .c 15 rfl <| za _) qD qD qF)))))))
    ·try simp only [dq] at h2
     exact zg (dj := 82) (c := false) rfl rfl rfl rfl rfl jD (zg (dj := 82) (c := false) rfl rfl rfl rfl rfl jD (y5 rfl rfl rfl (z7 (z4 (zK ⟨_, (by simp_all <;> omega), rfl, rfl, rfl⟩ (.c 85 rfl <| za _) (.c 1 rfl <| .c 7 rfl <| .c 8 rfl <| .c 15 rfl <| za _) qD qD qF)))))
   rintro _ _ _ ⟨w, hw, rfl, rfl, rfl⟩
   refine zF qA qA qA ?_
   refine z4 (zo rfl (fun h85 => ?_) (fun h85 => ?_))
   ·try simp only [dq] at h85
    have hwt := hw.1 h85
    refine zm (z4 (z6 (zr (z6 ?_))))
    have hgz : qd[i]? = some (gd qd i) := zJ jO
    obtain ⟨y, hz_⟩ : ∃ z, z = gd qd i := ⟨_, rfl⟩
    rw [← hz_] at hgz
    clear hz_
    have hrz : (qd.map e3)[i]? = some (e3 y) := zU hgz
    have hbz := hzqd y (List.mem_of_getElem? hgz)
    refine z8 (z5 rfl rfl (z5 rfl rfl (yI (i := i) rfl xE sz3 rfl rfl qM jR qG (fun b91 o91 => ?_))))
    refine zh rfl sc3 rfl qC ?_
    refine zx rfl (ev1 rfl) qD qS (made_spec hbz) ?_
    rintro _ _ _ ⟨xa, xb, xl, xc, xo, xd, rfl, hxl, hxo, rfl, rfl⟩
    refine zt qA qA ?_
    have hx8 := md_len (y % 8).toNat
    have hxs := md_sz (y % 8).toNat
    obtain ⟨X, hX⟩ : ∃ x, x = md (y % 8).toNat := ⟨_, rfl⟩
    rw [← hX] at hxl hxo hx8 hxs ⊢
    have hinx := inC_len X.1 xa xl xc
    have hpx := X.1.1.2
    obtain ⟨nn, hn_⟩ : ∃ x, x = inN X.1 X.2.1 := ⟨_, rfl⟩
    have hnn := nn.2
    have hn3 := zT nn
    refine z5 rfl rfl (zG rfl rfl rfl (zG rfl rfl rfl (zL rfl ze54 (fun b16 => ?_))))
    refine zE y9 rfl rfl qL qO qU qW ?_
    refine z9 rfl rfl (z7 (y1 (A := cl b16 54 (inC X.1 xa xl xc)) qP ?_))
    refine z4 (z8 (z5 rfl rfl (zp rfl y9 rfl qN ?_)))
    refine zW rfl (ev1 rfl) qD qS (iname_spec (l := X.2.1) (p := X.1) jO jO) jF ?_
    rw [← hn_]
    refine zW rfl (ev2 rfl rfl) qD qS (record_spec (k := 6) (x := nn)) jF ?_
    refine zx rfl (ev2 rfl rfl) qD qS (do6_spec (hl := []) (pl := pl) (al := al) (x := nn)) ?_
    rintro _ _ _ ⟨rfl, rfl, rfl⟩
    refine zt qA qA ?_
    refine z7 (zI (z4 (z8 (z5 rfl rfl (zH rfl rfl rfl jO ?_)))))
    exact z9 rfl rfl (z7 (z4 (zM ⟨i + 1, put al nn 1, ⟨by omega, by omega, Nat.le_trans put_len14 jO⟩, rfl, rfl, rfl, rfl⟩ qI (.c 15 rfl <| za _) (.c 1 rfl <| .c 7 rfl <| .c 8 rfl <| za _) qD qD qF)))
   ·try simp only [dq] at h85
    refine zR (zq (zq (zS (z4 (z6 (z8 (z5 rfl rfl (zp rfl ag26 rfl qN ?_))))))))
    refine L.mkIface rfl xG (by intro i q; cases q) rfl ?_
    refine zx rfl (ev2 rfl rfl) qD qS (live_spec (os := os) (hl := hl) (al := al) jO hDI.shf jO jO) ?_
    rintro _ _ _ ⟨la, ln, lc, lv, rfl, hlv, hln, rfl, rfl⟩
    refine zt qA qA ?_
    refine z9 rfl rfl (z7 (yD (rows := lv.map iC) qP ?_))
    refine z4 (z6 (z8 (yh rfl bs31 jD (zO (out := []) rfl) (fun b105 => ?_))))
    refine yU (len := 0) qP (rows := (([] : List ID32).map (·.1)).map ys) (sz := 1) (by rfl) rfl (by simp) ?_
    refine z9 rfl rfl (z7 (z4 (z6 (z6 (z8 (z5 rfl rfl (zx rfl (ev1 rfl) qD qS (held_spec (hl := hl) jO) ?_)))))))
    rintro _ _ _ ⟨fa, fn, fc, hs2, rfl, hhf, hfn, rfl, rfl⟩
    refine zt qA qA ?_
    have hfl := hhf.len
    rw [List.length_map] at hfl
    refine z5 rfl rfl (zx rfl (ev1 rfl) qD qS (asked_spec (al := al) jO) ?_)
    rintro _ _ _ ⟨ga, gn, gc, qs2, rfl, haf, hgn, rfl, rfl⟩
    refine zt qA qA ?_
    have hgl := haf.len
    rw [List.length_map] at hgl
    refine xy rfl zA zA el38 rfl rfl qP (rd_M qM) one_ics qI qI (fun a110 c110 => ?_)
    refine y2 rfl zA rfl (z5 rfl rfl (z7 (y4 _ ((hs2 ++ qs2).map iC) qP (by rw [List.map_append]) ?_)))
    refine yD (rows := (hs2 ++ qs2).map iC) qP ?_
    have hlr : RchF os (hs2 ++ qs2) lv := by
     obtain ⟨h1, q1, a1, b1, c1⟩ := hlv.ex
     rw [a1.uniq hhf, b1.uniq haf] at c1; exact c1
    have hlb := hlr.len
    have hsq : (hs2 ++ qs2).length = fn + gn := by rw [List.length_append]; omega
    rw [hsq] at hlb
    refine z4 (zr (zZ qP (show own 1 9 (some ⟨b105, 0, none⟩) 0 0 ((([] : List ID32).map (·.1)).map ys) = own 1 9 (some ⟨b105, 0, none⟩) 0 0 ((((hs2 ++ qs2).take 0).map (·.1)).map ys) from rfl) ?_))
    refine zX (fun K' D' M' μ => ∃ (i tc : Nat) (ta : Option Addr), (i ≤ fn + gn) ∧ K' = [(112, .int .i64 (i : Int)), (19, .slice ta i tc)] ∧ D' = [] ∧ M' = [own 1 9 ta i tc ((((hs2 ++ qs2).take i).map (·.1)).map ys)] ∧ μ = fn + gn - i) (.c 7 rfl <| .c 8 rfl <| .c 18 rfl <| .c 110 rfl <| .c 111 rfl <| za _) (⟨0, _, _, Nat.zero_le _, rfl, rfl, rfl, rfl⟩) (.c 112 rfl <| .c 19 rfl <| za _) qD qS ?_
    rintro K1 D1 M1 m1 ⟨i, tc, ta, hi, rfl, rfl, rfl, rfl⟩
    refine zF qA qA qA ?_
    refine z6 (z8 (zQ rfl rfl rfl (z7 (z4 (z6 (zo rfl (fun h113 => ?_) (fun h113 => ?_)))))))
    ·try simp only [dq] at h113
     refine zm (z4 (z6 (zr (z6 ?_))))
     have hgx : (hs2 ++ qs2)[i]? = some (gd (hs2 ++ qs2) i) := zJ jO
     obtain ⟨x, hx_⟩ : ∃ z, z = gd (hs2 ++ qs2) i := ⟨_, rfl⟩
     rw [← hx_] at hgx
     clear hx_
     have hrx : ((hs2 ++ qs2).map iC)[i]? = some (iC x) := zU hgx
     have hx2 := x.2
     have hx3 := zT x
     refine z8 (yI (i := i) rfl zA zN rfl rfl qM jR qG (fun b114 o114 => ?_))
     refine zp rfl zu rfl (x8 qM hx3) ?_
     refine zL rfl ze38 (fun b21 => ?_)
     refine zE zu rfl rfl qL qO qU qW ?_
     refine z7 (y1 (A := cl b21 38 (iC x)) qP ?_)
     refine z4 (z8 (z5 rfl rfl (zp rfl zu rfl qN ?_)))
     refine zW rfl (ev1 rfl) qD qS (obytes_spec (l := x.1) hx2) jF ?_
     refine yh rfl bs31 jD (zB rfl rfl rfl <| zO (out := []) rfl) (fun b119 => ?_)
     refine yR rfl yL el9 rfl rfl qP qM rfl qO1 qI qI (fun a120 c120 => ?_)
     refine z9 rfl rfl (z7 (zI (z4 (z8 (zH rfl rfl rfl jO ?_)))))
     refine z5 rfl rfl (z7 (z4 (y4 _ ((((hs2 ++ qs2).take (i + 1)).map (·.1)).map ys) qP (by rw [List.take_add_one, hgx, List.map_append, List.map_append]; rfl) ?_)))
     exact zM ⟨i + 1, _, _, jO, rfl, rfl, rfl, rfl⟩ qI (.c 112 rfl <| .c 19 rfl <| za _) (.c 7 rfl <| .c 8 rfl <| .c 18 rfl <| .c 110 rfl <| .c 111 rfl <| za _) qD qD qF
    ·try simp only [dq] at h113
     have hil : (hs2 ++ qs2).length ≤ i := by omega
     rw [List.take_of_length_le hil]
     refine yD (rows := ((hs2 ++ qs2).map (·.1)).map ys) qP ?_
     refine zR (zq (zq (zS (z4 (z6 (z8 (zj rfl fo26_0 rfl ?_)))))))
     refine zh rfl sc24 rfl qC ?_
     refine zx rfl (ev1 rfl) qD qS (told13_spec (os := os) jO) ?_
     rintro _ _ _ ⟨ta, tc, rfl, rfl, rfl⟩
     refine zt qA qA ?_
     refine yZ (rows := os.map obR) qP ?_
     refine z5 rfl rfl (zx rfl (ev2 rfl rfl) qD qS (rreach_spec (os := os) (l := hs2 ++ qs2) jO hDI.shf jO) ?_)
     rintro _ _ _ ⟨wa, wn, wc, us0, rfl, hwf, hwn, rfl, rfl⟩
     refine zt qA qA ?_
     obtain rfl : lv = us0 := hlr.uniq hwf
     refine z9 rfl rfl (z7 (z4 (z6 (z6 (z8 (z5 rfl rfl (z5 rfl rfl (zW rfl (ev2 rfl rfl) qD qS (same15_spec (xs := lv) (us := lv.map (·.1)) jO jO) jF ?_))))))))
     refine yX rfl rfl (z5 rfl rfl (zv (t := 131) rfl (show _ = Value.bool false from congrArg Value.bool (by rw [decide_eq_true rfl]; rfl)) ?_))
     refine zf (dj := 131) rfl rfl rfl (zp rfl ag26 rfl qN ?_)
     refine zf (dj := 131) rfl rfl rfl (L.mkIface rfl xG (by intro i q; cases q) rfl ?_)
     refine zf (dj := 131) rfl rfl rfl (z5 rfl rfl (zf (dj := 131) rfl rfl rfl (zx rfl (ev2 rfl rfl) qD qS (reach_spec (os := os) (l := lv) jO hDI.shf jO) ?_)))
     rintro _ _ _ ⟨ra, rn, rc, us1, rfl, hrf, hrn, hrb, rfl, rfl⟩
     refine zt qA qA ?_
     obtain rfl : lv = us1 := (rch_again hwf hrf).symm
     refine yZ (rows := lv.map iC) qP ?_
     refine zf (dj := 131) rfl rfl rfl (z5 rfl rfl (zf (dj := 131) rfl rfl rfl (zW rfl (ev2 rfl rfl) qD qS (same15_spec (xs := lv) (us := lv.map (·.1)) jO jO) jF ?_)))
     refine zf (dj := 131) rfl rfl rfl (yX rfl rfl (y5 rfl rfl rfl (z7 (z4 (ym rfl (by rw [decide_eq_true rfl]; rfl) ?_)))))
     refine zm (z4 (z6 (T.mpNodup (kenc := aK) (venc := ivV) qM (fun hnd => ?_))))
     have hPI := hDI.pi
     refine z8 (z5 rfl rfl (zp rfl ag26 rfl qN ?_))
     refine L.mkIface rfl xG (by intro i q; cases q) rfl ?_
     refine zx rfl (ev2 rfl rfl) qD qS (dead_spec (pl := pl) (os := os) (hl := hl) (al := al) jO hDI.shf jO jO jO hPI.r8 hPI.vd9) ?_
     rintro _ _ _ ⟨da, dn, dc, lv2, us, rfl, hlv2, hod, hdn, rfl, rfl⟩
     refine zt qA qA ?_
     obtain rfl : lv = lv2 := hlv.uniq hlv2
     have hG : GoI pl os hl al lv us := ⟨hDI, hnd, hlv, hod⟩
     have hGl := hG.len
     refine z9 rfl rfl (z7 (yD (rows := (ddF lv us.reverse).map iC) qP ?_))
     refine z4 (z6 (z8 (z5 rfl rfl (zx rfl (ev1 rfl) qD qS (paths_spec (pl := pl) jO) ?_))))
     rintro _ _ _ ⟨pa, pn, pc, ks, rfl, hkf, hkn, rfl, rfl⟩
     refine zt qA qA ?_
     have hkl := hkf.len
     rw [List.length_map] at hkl
     refine y2 rfl zA rfl (z9 rfl rfl (z7 (z4 (z6 (z6 (z8 (z5 rfl rfl (y2 rfl zA rfl (z5 rfl rfl (z7 (z4 (zr (zZ qP (show mp bp aK ivV pl = mp bp aK ivV (dls pl ((ddF lv us.reverse).take 0)) from rfl) ?_)))))))))))))
     refine zX (fun K' D' M' μ => ∃ (j : Nat), (j ≤ dn) ∧ K' = [(149, .int .i64 (j : Int))] ∧ D' = [] ∧ M' = [mp bp aK ivV (dls pl ((ddF lv us.reverse).take j)), mp bh aK iK hl] ∧ μ = dn - j) (.c 7 rfl <| .c 8 rfl <| .c 22 rfl <| .c 23 rfl <| .c 24 rfl <| .c 147 rfl <| .c 148 rfl <| za _) (⟨0, Nat.zero_le _, rfl, rfl, rfl, rfl⟩) (.c 149 rfl <| za _) qD qS ?_
     rintro K1 D1 M1 m1 ⟨j, hj, rfl, rfl, rfl, rfl⟩
     refine zF qA qA qA ?_
     refine z6 (z8 (zQ rfl rfl rfl (z7 (z4 (z6 (zo rfl (fun h150 => ?_) (fun h150 => ?_)))))))
     ·try simp only [dq] at h150
      refine zm (z4 (z6 (zr (z6 ?_))))
      have hgx : (ddF lv us.reverse)[j]? = some (gd (ddF lv us.reverse) j) := zJ jO
      obtain ⟨x, hx_⟩ : ∃ z, z = gd (ddF lv us.reverse) j := ⟨_, rfl⟩
      rw [← hx_] at hgx
      clear hx_
      have hrx : ((ddF lv us.reverse).map iC)[j]? = some (iC x) := zU hgx
      have hx2 := x.2
      have hx3 := zT x
      have hst := hG.step hgx
      refine z8 (yI (i := j) rfl zA zN rfl rfl qM jR qG (fun b151 o151 => ?_))
      refine zp rfl zu rfl (x8 qM hx3) ?_
      refine zL rfl ze38 (fun b26 => ?_)
      refine zE zu rfl rfl qL qO qU qW ?_
      refine z7 (y1 (A := cl b26 38 (iC x)) qP ?_)
      refine z4 (z6 (T.fcsSub (L := pl.map iF) (L' := (dls pl ((ddF lv us.reverse).take j)).map iF) (fun χ hχ => by obtain ⟨e, he, rfl⟩ := List.mem_map.1 hχ; exact List.mem_map.2 ⟨e, dls_mem he, rfl⟩) qM ?_))
      refine z8 (z5 rfl rfl (zp rfl zu rfl qN ?_))
      refine zW rfl (ev1 rfl) qD qS (obytes_spec (l := x.1) hx2) jF ?_
      refine zW rfl (ev2 rfl rfl) qD qS (in14_spec (l := lv.map (·.1)) (s := x.1) jO) jF ?_
      refine z5 rfl rfl (zv (t := 157) rfl (show _ = Value.bool false from congrArg Value.bool (decide_eq_false (fun q => hst.1 (mem_val.1 q)))) ?_)
      refine zf (dj := 157) rfl rfl rfl (z5 rfl rfl (zf (dj := 157) rfl rfl rfl (zp rfl zu rfl qN ?_)))
      refine zf (dj := 157) rfl rfl rfl (zW rfl (ev2 rfl rfl) qD qS (record_spec (k := 3) (x := x)) jF ?_)
      refine zf (dj := 157) rfl rfl rfl (zx rfl (ev2 rfl rfl) qD qS (do3_spec (al := []) (pl := (dls pl ((ddF lv us.reverse).take j))) (hl := hl) (x := x) (hPI.sub (fun e he => dls_mem he)).ok hst.2.2.2 hst.2.1 hst.2.2.1) ?_)
      rintro _ _ _ ⟨rfl, rfl, rfl⟩
      refine zt qA qA ?_
      refine zf (dj := 157) rfl rfl rfl (yx rfl rfl rfl (y5 rfl rfl rfl (z7 (z4 (ym rfl (decide_eq_false (fun q => q rfl)) ?_)))))
      refine zm (zI (z4 (z8 (zH rfl rfl rfl jO ?_))))
      refine z5 rfl rfl (z7 (z4 ?_))
      rw [← dls_s hgx]
      exact zM ⟨j + 1, jO, rfl, rfl, rfl, rfl⟩ qI (.c 149 rfl <| za _) (.c 7 rfl <| .c 8 rfl <| .c 22 rfl <| .c 23 rfl <| .c 24 rfl <| .c 147 rfl <| .c 148 rfl <| za _) qD qD qF
     ·try simp only [dq] at h150
      have hjl : (ddF lv us.reverse).length ≤ j := by omega
      rw [List.take_of_length_le hjl]
      refine zR (zq (zq (zS (z4 (z6 (z6 (z8 (z5 rfl rfl (zx rfl (ev1 rfl) qD qS (paths_spec (pl := (dls pl (ddF lv us.reverse))) (by have := hG.len; omega)) ?_)))))))))
      rintro _ _ _ ⟨p2a, p2n, p2c, ks2, rfl, hkf2, hkn2, rfl, rfl⟩
      refine zt qA qA ?_
      have hkl2 := hkf2.len
      rw [List.length_map] at hkl2
      refine y2 rfl zA rfl (z5 rfl rfl (z7 (yD (rows := ks2.map iC) qP ?_)))
      refine z4 (zr (zX (fun K' D' M' μ => ∃ (j : Nat), (j ≤ p2n) ∧ K' = [(168, .int .i64 (j : Int))] ∧ D' = [] ∧ M' = [] ∧ μ = p2n - j) (.c 7 rfl <| .c 8 rfl <| .c 22 rfl <| .c 23 rfl <| .c 24 rfl <| .c 166 rfl <| .c 167 rfl <| za _) (⟨0, Nat.zero_le _, rfl, rfl, rfl, rfl⟩) (.c 168 rfl <| za _) qD qS ?_))
      rintro K1 D1 M1 m1 ⟨j, hj, rfl, rfl, rfl, rfl⟩
      refine zF qA qA qA ?_
      refine z6 (z8 (zQ rfl rfl rfl (z7 (z4 (z6 (zo rfl (fun h169 => ?_) (fun h169 => ?_)))))))
      ·try simp only [dq] at h169
       refine zm (z4 (z6 (zr (z6 ?_))))
       have hgx : (ks2)[j]? = some (gd (ks2) j) := zJ jO
       obtain ⟨x, hx_⟩ : ∃ z, z = gd (ks2) j := ⟨_, rfl⟩
       rw [← hx_] at hgx
       clear hx_
       have hrx : ((ks2).map iC)[j]? = some (iC x) := zU hgx
       have hx2 := x.2
       have hx3 := zT x
       have hxl : x ∈ lv := hG.left ((hkf2.mem x).1 (List.mem_of_getElem? hgx))
       refine z8 (yI (i := j) rfl zA zN rfl rfl qM jR qG (fun b170 o170 => ?_))
       refine zp rfl zu rfl (x8 qM hx3) ?_
       refine zL rfl ze38 (fun b28 => ?_)
       refine zE zu rfl rfl qL qO qU qW ?_
       refine z7 (y1 (A := cl b28 38 (iC x)) qP ?_)
       refine z4 (z6 (z8 (z5 rfl rfl (zp rfl zu rfl qN ?_))))
       refine zW rfl (ev1 rfl) qD qS (obytes_spec (l := x.1) hx2) jF ?_
       refine zW rfl (ev2 rfl rfl) qD qS (in14_spec (l := lv.map (·.1)) (s := x.1) jO) jF ?_
       refine yX rfl rfl (z7 (z4 (ym rfl (by rw [decide_eq_true (mem_val.2 hxl)]; rfl) ?_)))
       refine zm (zI (z4 (z8 (zH rfl rfl rfl jO ?_))))
       exact z5 rfl rfl (z7 (z4 (zM ⟨j + 1, jO, rfl, rfl, rfl, rfl⟩ qI (.c 168 rfl <| za _) (.c 7 rfl <| .c 8 rfl <| .c 22 rfl <| .c 23 rfl <| .c 24 rfl <| .c 166 rfl <| .c 167 rfl <| za _) qD qD qF)))
      ·try simp only [dq] at h169
       refine zR (zq (zq (zS (z4 (z6 ?_)))))
       have hPE : PlI (dls pl (ddF lv us.reverse)) := hPI.sub (fun e he => dls_mem he)
       refine T.fcsSub (L := pl.map iF) (L' := (dls pl (ddF lv us.reverse)).map iF) (fun χ hχ => by obtain ⟨e, he, rfl⟩ := List.mem_map.1 hχ; exact List.mem_map.2 ⟨e, dls_mem he, rfl⟩) qM ?_
       refine z8 (z5 rfl rfl (zx rfl (ev1 rfl) qD qS (paths_spec (pl := (dls pl (ddF lv us.reverse))) (by have := hG.len; omega)) ?_))
       rintro _ _ _ ⟨p3a, p3n, p3c, ks3, rfl, hkf3, hkn3, rfl, rfl⟩
       refine zt qA qA ?_
       have hkl3 := hkf3.len
       rw [List.length_map] at hkl3
       refine y2 rfl zA rfl (z5 rfl rfl (y2 rfl zA rfl (zH rfl rfl rfl jO ?_)))
       refine z5 rfl rfl (yj rfl rfl rfl (z5 rfl rfl (zv (t := 186) rfl (show _ = Value.bool true from congrArg Value.bool (decide_eq_true jO)) ?_)))
       refine zf (dj := 186) rfl rfl rfl (z5 rfl rfl (zf (dj := 186) rfl rfl rfl (zp rfl ag26 rfl qN ?_)))
       refine zf (dj := 186) rfl rfl rfl (L.mkIface rfl xG (by intro i q; cases q) rfl ?_)
       refine zf (dj := 186) rfl rfl rfl (zx rfl (ev2 rfl rfl) qD qS (dead_spec (pl := (dls pl (ddF lv us.reverse))) (os := os) (hl := hl) (al := al) jO hDI.shf jO jO (by have := hG.len; omega) hPE.r8 hPE.vd9) ?_)
       rintro _ _ _ ⟨da2, dn2, dc2, lv3, us3, rfl, hlv3, hod3, hdn3, rfl, rfl⟩
       refine zt qA qA ?_
       obtain rfl : lv = lv3 := hlv.uniq hlv3
       have hz0 := hG.none hod3
       exact zf (dj := 186) rfl rfl rfl (y2 rfl zA rfl (zf (dj := 186) rfl rfl rfl (yj rfl rfl rfl (ye rfl rfl rfl (z9 rfl rfl (z7 (z4 (zi (zz rfl rfl ⟨congrArg Value.bool (decide_eq_true (by rw [hz0, List.length_nil] at hdn3; omega)), rfl, rfl⟩ qD qF)))))))))
end Cv
