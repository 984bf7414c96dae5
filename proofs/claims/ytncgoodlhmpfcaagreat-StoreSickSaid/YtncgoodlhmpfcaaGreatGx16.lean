/-
  The walks: objects.
-/
import Derived.Test.YtncgoodlhmpfcaaGreatGy16
set_option linter.all false
set_option maxHeartbeats 400000
set_option maxRecDepth 10000
namespace Cv
open Go Go.Proofs
theorem nd_len {α : Type} [DecidableEq α] : ∀ {l m : List α}, l.Nodup → (∀ x ∈ l, x ∈ m) → l.length ≤ m.length
  | [], m, _, _ => Nat.zero_le _
  | x :: l, m, hn, hs => by
    obtain ⟨h1, h2⟩ := List.nodup_cons.1 hn
    have hx := hs x (List.mem_cons_self ..)
    have ih := nd_len (m := m.erase x) h2 fun y hy => (List.mem_erase_of_ne fun e => h1 (by rw [← e]; exact hy)).2 (hs y (List.mem_cons_of_mem _ hy))
    have := List.length_erase_of_mem hx
    have := List.length_pos_of_mem hx
    rw [List.length_cons]; omega
theorem asc_nd {l : List ID32} (h : l.Pairwise (fun x y => x.1 < y.1)) : l.Nodup := h.imp fun {a b} k e => by
  subst e; exact cfI_irr a (cmpB_lt.2 k)
theorem at_pt (p : Pt) (a : Option Addr) (n c : Nat) : AtN 33 (inC p a n c) 0 (ptC p) := by
  rw [show inC p a n c = ptC p ++ [.slice a n c] from by simp]; exact AtN.left (ptC_len p)

/-! ## the objects of paths: all of them -/
theorem Bel.dn {os : List Ob} {ml : SnM} {p q : Pt} {lv k : Int} (h : Bel os p lv q k) (d : Dn os ml p lv) (cl : ∀ x, opn ml x → PDn os ml x) : Dn os ml q k := by
  induction h with
  | base => exact d
  | step _ g h0 h2 he m ih =>
    rcases ih with ih | ih
    · rw [g] at ih; cases ih
    · exact cl _ (ih.2 ⟨h0, _, g, h2, he⟩) _ g _ m
def ObM (os : List Ob) (l : List ID32) (z : ID32) : Prop := ∃ x ∈ l, (lkR os x).2.2 = true ∧ (z = x ∨ Blw os (lkR os x).1 (-1) z)
structure ObI (os : List Ob) (l : List ID32) (i : Nat) (ml : SnM) : Prop where
  ok : OkM ml
  cl : ∀ x, opn ml x → PDn os ml x
  dn : ∀ x ∈ l.take i, (lkR os x).2.2 = true → kIn ml x ∧ Dn os ml (lkR os x).1 (-1)
  so : ∀ z, kIn ml z → ObM os (l.take i) z
theorem ObI.start (os : List Ob) (l : List ID32) : ObI os l 0 [] := ⟨fun x => ⟨Int.le_refl _, by show (0 : Int) ≤ 2; decide⟩, fun x h => absurd h (by show ¬ (1 : Int) < 0; decide), fun x h => (by cases h), fun z h => (by cases h)⟩
theorem ObM.mono {os : List Ob} {l : List ID32} {i : Nat} {z : ID32} (h : ObM os (l.take i) z) : ObM os (l.take (i + 1)) z := by
  obtain ⟨x, hx, h⟩ := h
  refine ⟨x, ?_, h⟩
  rw [List.take_add_one]; exact List.mem_append_left _ hx
theorem ObI.skip {os : List Ob} {l : List ID32} {i : Nat} {ml : SnM} {x : ID32} (h : ObI os l i ml) (g : l[i]? = some x) (k : (lkR os x).2.2 = false) : ObI os l (i + 1) ml := by
  refine ⟨h.ok, h.cl, fun y hy c => ?_, fun z hz => (h.so z hz).mono⟩
  rw [List.take_add_one, g] at hy
  rcases List.mem_append.1 hy with e | e
  · exact h.dn y e c
  · obtain rfl : y = x := by simpa using e
    rw [k] at c; cases c
theorem ok_mark {ml : SnM} {x : ID32} (h : OkM ml) : OkM (put ml x (max (val0 ml x) 1)) := fun y => by
  have := h x
  rw [val0_put]; split
  · omega
  · exact h y
theorem opn_mark {ml : SnM} {x y : ID32} : opn (put ml x (max (val0 ml x) 1)) y ↔ opn ml y := by
  unfold opn
  rw [val0_put]; split
  · rename_i e; subst e; omega
  · exact Iff.rfl
theorem ObI.next {os : List Ob} {l : List ID32} {i : Nat} {ml mr : SnM} {x : ID32} (h : ObI os l i ml) (g : l[i]? = some x) (k : (lkR os x).2.2 = true) (b : BelP os (lkR os x).1 (-1) (put ml x (max (val0 ml x) 1)) mr) : ObI os l (i + 1) mr := by
  have hk : ∀ z, kIn ml z → kIn mr z := fun z hz => b.ky z (kIn_put.2 (.inl hz))
  have ho : ∀ z, opn ml z → opn mr z := fun z hz => b.op z (opn_mark.2 hz)
  refine ⟨b.ok, fun y hy => ?_, fun y hy c => ?_, fun z hz => ?_⟩
  · by_cases e : opn ml y
    · exact fun o go q hq => (h.cl y e o go q hq).mono hk ho
    · exact b.cl y hy fun c => e (opn_mark.1 c)
  · rw [List.take_add_one, g] at hy
    rcases List.mem_append.1 hy with e | e
    · exact ⟨hk _ (h.dn y e c).1, (h.dn y e c).2.mono hk ho⟩
    · obtain rfl : y = x := by simpa using e
      exact ⟨b.ky _ (kIn_put.2 (.inr R)), b.dn⟩
  · have hx : x ∈ l.take (i + 1) := by rw [List.take_add_one, g]; simp
    by_cases e : kIn (put ml x (max (val0 ml x) 1)) z
    · rcases kIn_put.1 e with e | e
      · exact (h.so z e).mono
      · exact ⟨x, hx, k, .inl e⟩
    · exact ⟨x, hx, k, .inr (b.so z hz e)⟩
structure ObF (os : List Ob) (l us : List ID32) : Prop where
  asc : us.Pairwise (fun x y => x.1 < y.1)
  mem : ∀ z, z ∈ us ↔ ObM os l z
theorem ObI.fin {os : List Ob} {l us : List ID32} {i : Nat} {ml : SnM} (h : ObI os l i ml) (hi : l.length ≤ i) (k : KeysF (ml.map Prod.fst) us) : ObF os l us := by
  have hd := h.dn
  have hs := h.so
  rw [List.take_of_length_le hi] at hd hs
  refine ⟨k.asc, fun z => (k.mem z).trans ⟨hs z, fun ⟨x, hx, c, e⟩ => ?_⟩⟩
  rcases e with e | ⟨q, j, b, e, g⟩
  · rw [e]; exact (hd x hx c).1
  · rcases b.dn (hd x hx c).2 h.cl with d | d
    · rw [e] at d; exact absurd d g
    · rw [← e]; exact d.1
theorem go_some {os : List Ob} {x : ID32} (h : goF os x ≠ none) : x ∈ os.map (·.2.1) := by
  cases e : goF os x with
  | none => exact absurd e h
  | some o => exact List.mem_map.2 ⟨o, (goF_mem e).1, (goF_mem e).2⟩
theorem ObM.here {os : List Ob} {l : List ID32} {z : ID32} (h : ObM os l z) : z ∈ os.map (·.2.1) := by
  obtain ⟨x, hx, c, e⟩ := h
  rcases e with e | ⟨q, j, b, e, g⟩
  · obtain ⟨o, ho, h2⟩ := lkR_mem c
    exact List.mem_map.2 ⟨o, ho, by rw [h2, e]⟩
  · exact go_some g
theorem ObI.len {os : List Ob} {l : List ID32} {i : Nat} {ml : SnM} (h : ObI os l i ml) (hn : (ml.map Prod.fst).Nodup) : ml.length ≤ os.length := by
  have := nd_len (m := os.map (·.2.1)) hn fun z hz => (h.so z hz).here
  rwa [List.length_map, List.length_map] at this
theorem ObF.len {os : List Ob} {l us : List ID32} (h : ObF os l us) : us.length ≤ os.length := by
  have := nd_len (m := os.map (·.2.1)) (asc_nd h.asc) fun z hz => ((h.mem z).1 hz).here
  rwa [List.length_map] at this

theorem objs_spec {ka bs br bd bb tn n : Nat} {k : Dk} {rs : List Rc} {os : List Ob} {b : Option Addr} {m d : Nat} {l : List ID32} (hn : n ≤ 12) (hs : Shf os) (hm : m ≤ 100000) (hol : os.length = n) (hos : osR rs = os) : Spec Tryz.prog 130 [.iface 103 (.pointer (some ⟨ka, 0, none⟩)), .slice b m d] [cl k.bd 51 [.pointer (some ⟨k.bf, 0, none⟩), .slice (some ⟨k.sb, 0, none⟩) k.n k.n, .map (some k.bl)], rsl 32 b m d (l.map iC)] [asA ka bs br bd bb k tn rs] (fun v D' M' => ∃ (a' : Option Addr) (n' c' : Nat) (us : List ID32), v = .slice a' n' c' ∧ (ObF os l us) ∧ (us.length = n') ∧ D' = [] ∧ M' = [asA ka bs br bd bb k tn rs, own 32 38 a' n' c' (us.map iC)]) := by
 refine zv (n := 39) Tryz.func130 ?_
 intro σ D M
 refine yU (a := b) (len := m) (cap := d) (rows := l.map iC) qM (fun hll hlc => ?_)
 rw [List.length_map] at hll
 refine O (V R R (I (O (xN aK iK R (fun sm => ?_)))))
 refine V R R (I (ze (O (E R R (yb R yh R (E R R (I (zD (y8 (fun K' D' M' μ => ∃ (i : Nat) (ml : SnM), (i ≤ m ∧ ObI os l i ml) ∧ K' = [(13, .int .i64 (i : Int))] ∧ D' = [] ∧ M' = [mp sm aK iK ml] ∧ μ = m - i) (.c 0 R <| .c 5 R <| .c 11 R <| .c 12 R <| zd _) (⟨0, [], ⟨Nat.zero_le _, .start os l⟩, R, R, R, R⟩) (.c 13 R <| zd _) qD qS ?_)))))))))
 rintro K1 D1 M1 m1 ⟨i, ml, ⟨hi, hI⟩, rfl, rfl, rfl, rfl⟩
 refine zM qA qA qA ?_
 refine O (zW R R R (I (ze (zA R (fun h14 => ?_) (fun h14 => ?_)))))
 ·try simp only [dq] at h14
  refine zq (z8 (ze (zD (ze ?_))))
  have hgx : l[i]? = some (gd l i) := y9 jO
  obtain ⟨x, hx_⟩ : ∃ z, z = gd l i := ⟨_, rfl⟩
  rw [← hx_] at hgx
  clear hx_
  have hrx : (l.map iC)[i]? = some (iC x) := yJ hgx
  have hx32 := x.2
  have hx3 := yw x
  have hkx := hI.ok x
  refine zt (yP (i := i) R yh sz38 R R qM jR qG (fun b15 o15 => ?_))
  refine zx R zI R (xl qM hx3) ?_
  refine zC R ze38 (fun b7 => ?_)
  refine zz zI R R qL qO qU qW ?_
  refine zu (zO (A := cl b7 38 (iC x)) qP ?_)
  refine z8 (O (E R R (zx R zI R qN ?_)))
  refine zp R (ev2 R R) qD qS (look_spec (os := os) (x := x) jO hs hol hos) ?_
  rintro _ _ _ ⟨ka, kn, kc, rfl, hkn, rfl, rfl⟩
  refine zm qA qA ?_
  have hin := inC_len (lkR os x).1 ka kn kc
  have hp32 := (lkR os x).1.1.2
  refine E R R (zr R R R (zr R R R (zC R ze75 (fun b8 => ?_))))
  refine zz yu R R qL qO qU qW ?_
  refine V R R (zu (zO (A := cl b8 75 (inC (lkR os x).1 ka kn kc)) qP ?_))
  refine z8 (O (E R R (I (zA R (fun h23 => ?_) (fun h23 => ?_)))))
  ·try simp only [dq] at h23
   refine ze (y7 (clsL [1, 1, 1, 1, 2, 1, 2]) qk ?_)
   refine z9 0 R R (E R R (z7 (z9 1 R R (zx R zI R qN ?_))))
   refine z7 (z9 2 R R (E R R (z7 (z9 3 R R (zx R zI R qN ?_)))))
   refine z7 (zi 4 R (L.lookup1 (kenc := aK) (venc := iK) (l := ml) (k := x) R xd (yo yf zX sc5) zv3 R R qM ?_))
   refine zE (t := 28) (u := .int .i64 (val0 (ml) (x))) R (by unfold val0; cases look (ml) (x) <;> rfl) ?_
   refine zh R qD ?_
   refine z9 5 R R (L.maxI R R R ?_)
   refine z7 (zi 6 R (xQ (kenc := aK) (venc := iK) (l := ml) (k := x) (v := max (val0 ml x) 1) xd (yo yf zX sc5) R R R R qP ?_))
   refine zh R qD ?_
   refine zN qk ?_
   refine z8 (zt (E R R (zg R fo75_0 R ?_)))
   refine zx R ag73 R (CellsN.ofF qM (at_pt _ _ _ _)) ?_
   refine E R R (zp R (ev4 R R R R) qD qS (below_spec (os := os) (p := (lkR os x).1) (ml := (put ml x (max (val0 ml x) 1))) jO hs (ok_mark hI.ok) hol hos) ?_)
   rintro _ _ _ ⟨mr, rfl, hbp, rfl, rfl⟩
   refine zm qA qA ?_
   refine zu (zS (z8 (zt (zT R R R jO ?_))))
   exact E R R (I (zV ⟨i + 1, mr, ⟨by omega, hI.next hgx h23 hbp⟩, R, R, R, R⟩ qI (.c 13 R <| zd _) (.c 0 R <| .c 5 R <| .c 11 R <| .c 12 R <| zd _) qD qD qF))
  try simp only [dq] at h23
  refine zq (zS (z8 (zt (zT R R R jO ?_))))
  exact E R R (I (zV ⟨i + 1, ml, ⟨by omega, hI.skip hgx h23⟩, R, R, R, R⟩ qI (.c 13 R <| zd _) (.c 0 R <| .c 5 R <| .c 11 R <| .c 12 R <| zd _) qD qD qF))
 try simp only [dq] at h14
 obtain rfl : m = i := by omega
 refine T.mpNodup (kenc := aK) (venc := iK) qM (fun hnd => ?_)
 have hml := hI.len hnd
 refine y4 (zG (zG (y5 (z8 (O (E R R (zp R (ev1 R) qD qS (keysfR_spec) ?_)))))))
 rintro _ _ _ ⟨kc, rfl, rfl, rfl⟩
 refine zm qA qA ?_
 refine zp R (ev2 R R) qD qS (sortedGR_spec (keys_iterR (ml := ml) (m := sm) (c := kc)) (fun pre x h => by omega) (fun xs h => by have := h.length_eq; rw [List.length_map] at this; omega)) ?_
 rintro _ _ _ ⟨ga, gn, gc, xs, us, rfl, hxs, hup, hus, hun, rfl, rfl⟩
 refine zm qA qA ?_
 exact V R R (I (zo (zy R R ⟨_, _, _, us, R, hI.fin jO (keys_of hnd hxs hup hus), hun, R, R⟩ qD qF)))
end Cv
set_option maxRecDepth 10000
namespace Cv
open Go Go.Proofs
/-! ## the order of paths: the plain model -/
def refsOf (pl : IvM) (x : ID32) : List ID32 := match look pl x with
  | some v => v.1.2
  | none => []
abbrev VS := List ID32 × List ID32
def visF (pl : IvM) : Nat → ID32 → VS → VS
  | 0, _, s => s
  | f + 1, x, s => if x ∈ s.1 then s else
      (((refsOf pl x).foldl (fun s y => visF pl f y s) (s.1 ++ [x], s.2)).1, ((refsOf pl x).foldl (fun s y => visF pl f y s) (s.1 ++ [x], s.2)).2 ++ [x])
theorem vis_s {pl : IvM} {f : Nat} {x : ID32} {s : VS} (h : x ∈ s.1) : visF pl (f + 1) x s = s := by rw [visF, if_pos h]
theorem vis_n {pl : IvM} {f : Nat} {x : ID32} {s r : VS} (h : x ∉ s.1) (e : r = (refsOf pl x).foldl (fun s y => visF pl f y s) (s.1 ++ [x], s.2)) : visF pl (f + 1) x s = (r.1, r.2 ++ [x]) := by subst e; rw [visF, if_neg h]
def VD (pl : IvM) : Nat → ID32 → Prop
  | 0, _ => False
  | f + 1, x => ∀ r ∈ refsOf pl x, VD pl f r
structure MlR (ml : SnM) (sn : List ID32) (C : Nat) : Prop where
  ky : ml.map Prod.fst = sn
  lo : ∀ x ∈ sn, 1 ≤ val0 ml x
  hi : ∀ x, 0 ≤ val0 ml x ∧ val0 ml x ≤ C
theorem MlR.start : MlR [] [] 0 := ⟨rfl, fun x h => (by cases h), fun x => ⟨Int.le_refl _, Int.le_refl _⟩⟩
theorem MlR.seen {ml : SnM} {sn : List ID32} {C : Nat} (h : MlR ml sn C) {x : ID32} : 1 < val0 ml x + 1 ↔ x ∈ sn := by
  constructor
  · intro e; rw [← h.ky]; exact RcI.isOld e
  · intro e; have := h.lo x e; omega
theorem MlR.old {ml : SnM} {sn : List ID32} {C : Nat} (h : MlR ml sn C) {x : ID32} (e : x ∈ sn) : MlR (put ml x (val0 ml x + 1)) sn (C + 1) := by
  refine ⟨by rw [keys_put, if_pos (by rw [h.ky]; exact e)]; exact h.ky, fun y hy => ?_, fun y => ?_⟩
  · rw [val0_put]; split
    · have := h.hi x; omega
    · exact h.lo y hy
  · have := h.hi x; have := h.hi y
    rw [val0_put]; split <;> omega
theorem MlR.new {ml : SnM} {sn : List ID32} {C : Nat} (h : MlR ml sn C) {x : ID32} (e : x ∉ sn) : MlR (put ml x (val0 ml x + 1)) (sn ++ [x]) (C + 1) := by
  refine ⟨by rw [keys_put, if_neg (by rw [h.ky]; exact e), h.ky], fun y hy => ?_, fun y => ?_⟩
  · rw [val0_put]; split
    · have := h.hi x; omega
    · rename_i c
      rcases List.mem_append.1 hy with q | q
      · exact h.lo y q
      · exact absurd (List.mem_singleton.1 q) c
  · have := h.hi x; have := h.hi y
    rw [val0_put]; split <;> omega
def UP (pl : IvM) (dn : List ID32) : Nat := (pl.filter fun e => decide (e.1 ∉ dn)).length
theorem UP_le {pl : IvM} {dn : List ID32} {x : ID32} : UP pl (dn ++ [x]) ≤ UP pl dn := by
  unfold UP
  rw [← List.countP_eq_length_filter, ← List.countP_eq_length_filter]
  exact List.countP_mono_left fun o _ h => decide_eq_true fun q => of_decide_eq_true h (List.mem_append_left _ q)
theorem UP_lt {pl : IvM} {dn : List ID32} {x : ID32} (h : x ∉ dn) (k : refsOf pl x ≠ []) : UP pl (dn ++ [x]) + 1 ≤ UP pl dn := by
  have : ∃ v, look pl x = some v := by
    unfold refsOf at k
    cases e : look pl x with
    | some v => exact ⟨v, rfl⟩
    | none => rw [e] at k; exact absurd rfl k
  obtain ⟨v, hv⟩ := this
  exact filt_lt (fun o h => decide_eq_true fun q => of_decide_eq_true h (List.mem_append_left _ q)) ⟨(x, v), xR hv, decide_eq_true h, decide_eq_false fun q => q (List.mem_append_right _ (List.mem_singleton.2 R))⟩
def R8 (pl : IvM) : Prop := ∀ x, (refsOf pl x).length ≤ 8
def vpot (pl : IvM) (s : VS) : Nat := s.1.length + 9 * UP pl s.1
theorem vis_len (pl : IvM) : ∀ (f : Nat) (x : ID32) (s : VS) (d : Nat), s.2.length + d ≤ s.1.length → (visF pl f x s).2.length + d ≤ (visF pl f x s).1.length
  | 0, x, s, d, h => h
  | f + 1, x, s, d, h => by
    rw [visF]; split
    · exact h
    · have key : ∀ (l : List ID32) (s : VS), s.2.length + (d + 1) ≤ s.1.length → (l.foldl (fun s y => visF pl f y s) s).2.length + (d + 1) ≤ (l.foldl (fun s y => visF pl f y s) s).1.length := fun l => by
        induction l with
        | nil => exact fun s k => k
        | cons y l ih => exact fun s k => by rw [List.foldl_cons]; exact ih _ (vis_len pl f y s (d + 1) k)
      have := key (refsOf pl x) (s.1 ++ [x], s.2) (by dsimp only; rw [List.length_append, List.length_singleton]; omega)
      dsimp only; rw [List.length_append, List.length_singleton]; omega
theorem vis_pot {pl : IvM} (h8 : R8 pl) : ∀ (f : Nat) (x : ID32) (s : VS), vpot pl (visF pl f x s) ≤ vpot pl s + 1
  | 0, x, s => Nat.le_add_right _ _
  | f + 1, x, s => by
    rw [visF]; split
    · exact Nat.le_add_right _ _
    · rename_i c
      have key : ∀ (l : List ID32) (s : VS), vpot pl (l.foldl (fun s y => visF pl f y s) s) ≤ vpot pl s + l.length := fun l => by
        induction l with
        | nil => exact fun s => Nat.le_refl _
        | cons y l ih =>
          intro s
          have a := vis_pot h8 f y s
          have b := ih (visF pl f y s)
          rw [List.foldl_cons, List.length_cons]; omega
      have a := key (refsOf pl x) (s.1 ++ [x], s.2)
      have b := h8 x
      have e : vpot pl (s.1 ++ [x], s.2) + (refsOf pl x).length ≤ vpot pl s + 1 := by
        unfold vpot; dsimp only; rw [List.length_append, List.length_singleton]
        by_cases z : refsOf pl x = []
        · have := UP_le (pl := pl) (dn := s.1) (x := x); rw [z, List.length_nil]; omega
        · have := UP_lt c z; omega
      exact Nat.le_trans a e
theorem fold_snoc {g : ID32 → VS → VS} {l : List ID32} {i : Nat} {y : ID32} {s : VS} (h : l[i]? = some y) : (l.take (i + 1)).foldl (fun s y => g y s) s = g y ((l.take i).foldl (fun s y => g y s) s) := by
  rw [List.take_add_one, h, List.foldl_append]; rfl
theorem iv_33 (v : IV) : (ivC v)[33]? = some (.slice v.2.1 v.2.2.1 v.2.2.2) := by
  show (v.1.1.1.1.map Y ++ [.int .i64 v.1.1.2, .slice v.2.1 v.2.2.1 v.2.2.2])[33]? = _
  rw [List.getElem?_append_right (by rw [List.length_map, v.1.1.1.2]; decide), List.length_map, v.1.1.1.2]; rfl

theorem visit_step {br bp bh ba b4 bq bv bo md on oc f C : Nat} {oa : Option Addr} {pl : IvM} {dl : SnM} {s : VS} {x : ID32} (h8 : R8 pl) (hd : VD pl (f + 1) x) (hml : MlR dl s.1 C) (hC : C + 9 * UP pl s.1 ≤ 100000000) (hon : s.2.length = on) (hle : s.2.length + 0 ≤ s.1.length) (hvp : vpot pl s ≤ 1000000) (IH : ∀ (dl : SnM) (oa : Option Addr) (on oc C : Nat) (s : VS) (x : ID32), VD pl f x → MlR dl s.1 C → C + 9 * UP pl s.1 ≤ 100000000 → s.2.length = on → s.2.length + 0 ≤ s.1.length → vpot pl s ≤ 1000000 → Spec Tryz.prog 88 (.agg (iC x).toArray :: [.pointer (some ⟨b4, 0, none⟩), .pointer (some ⟨bq, 0, none⟩), .pointer (some ⟨bv, 0, none⟩), .pointer (some ⟨bo, 0, none⟩)]) [cl b4 108 [.map (some md)], cl bq 63 [.pointer (some ⟨br, 0, none⟩)], cl bv 165 [fnV 88 [.pointer (some ⟨b4, 0, none⟩), .pointer (some ⟨bq, 0, none⟩), .pointer (some ⟨bv, 0, none⟩), .pointer (some ⟨bo, 0, none⟩)]], cl br 128 (rgC bp bh ba), ifs pl] [mp md aK iK dl, cl bo 32 [.slice oa on oc], own 32 38 oa on oc ((s.2).map iC), mp bp aK ivV pl] (fun v D' M' => ∃ (dl2 : SnM) (oa2 : Option Addr) (on2 oc2 C2 : Nat), v = .tuple #[] ∧ ((visF pl f x s).2.length = on2) ∧ (MlR dl2 (visF pl f x s).1 C2) ∧ (C2 + 9 * UP pl (visF pl f x s).1 ≤ C + 9 * UP pl s.1 + 1) ∧ D' = [] ∧ M' = [mp md aK iK dl2, cl bo 32 [.slice oa2 on2 oc2], own 32 38 oa2 on2 oc2 (((visF pl f x s).2).map iC), mp bp aK ivV pl])) : Spec Tryz.prog 88 [.agg (iC x).toArray, .pointer (some ⟨b4, 0, none⟩), .pointer (some ⟨bq, 0, none⟩), .pointer (some ⟨bv, 0, none⟩), .pointer (some ⟨bo, 0, none⟩)] [cl b4 108 [.map (some md)], cl bq 63 [.pointer (some ⟨br, 0, none⟩)], cl bv 165 [fnV 88 [.pointer (some ⟨b4, 0, none⟩), .pointer (some ⟨bq, 0, none⟩), .pointer (some ⟨bv, 0, none⟩), .pointer (some ⟨bo, 0, none⟩)]], cl br 128 (rgC bp bh ba), ifs pl] [mp md aK iK dl, cl bo 32 [.slice oa on oc], own 32 38 oa on oc ((s.2).map iC), mp bp aK ivV pl] (fun v D' M' => ∃ (dl2 : SnM) (oa2 : Option Addr) (on2 oc2 C2 : Nat), v = .tuple #[] ∧ ((visF pl (f + 1) x s).2.length = on2) ∧ (MlR dl2 (visF pl (f + 1) x s).1 C2) ∧ (C2 + 9 * UP pl (visF pl (f + 1) x s).1 ≤ C + 9 * UP pl s.1 + 1) ∧ D' = [] ∧ M' = [mp md aK iK dl2, cl bo 32 [.slice oa2 on2 oc2], own 32 38 oa2 on2 oc2 (((visF pl (f + 1) x s).2).map iC), mp bp aK ivV pl]) := by
 refine zv (n := 38) Tryz.func88 ?_
 intro σ D M
 have hx2 := x.2
 have hx3 := yw x
 have hv0 := hml.hi x
 have hup := UP_le (pl := pl) (dn := s.1) (x := x)
 have hvq := hvp
 unfold vpot at hvq
 have hr8 := h8 x
 refine O (y6 R R R (fun b5 => ?_))
 refine zu (zO (A := cl b5 38 (iC x)) qP ?_)
 refine z8 (ze (ze (yx (fun K' D' M' => K' = [] ∧ D' = [] ∧ M' = [mp md aK iK (put dl x (val0 dl x + 1))]) (M0 := [mp md aK iK dl]) (.c 1 R <| .c 2 R <| .c 3 R <| .c 4 R <| .c 5 R <| zd _) qS ?_ ?_)))
 ·refine y7 (clsL [1, 1, 2, 1, 2, 1, 2]) qk ?_
  refine z9 0 R R (zf R sc108 R qC ?_)
  refine z7 (z9 1 R R (zx R zI R qN ?_))
  refine z7 (yA (is := [2, 4]) qk jD (zU R ?_ <| zU R ?_ <| yB) )
  ·refine L.lookup1 (kenc := aK) (venc := iK) (l := dl) (k := x) R xd (yo yf zX sc5) zv3 R R qM ?_
   refine zE (t := 10) (u := .int .i64 (val0 dl x)) R (by unfold val0; cases look dl x <;> rfl) ?_
   refine zh R qD ?_
   refine z9 3 R R (zT R R R jO ?_)
   refine z7 (zi 4 R (L.mapEntry (kenc := aK) (venc := iK) (l := dl) (k := x) (z0 := 0) R xd (yo yf zX sc5) zv3 R R qP (fun mt => ?_)))
   refine zh R qD ?_
   refine z9 5 R R (zr R R R (z7 (zi 6 R (L.entryStore (kenc := aK) (venc := iK) (l := Cv.put dl x ((look dl x).getD 0)) (k := x) (v := val0 dl x + 1) R R R R qP ?_))))
   rw [put_put]
   refine zh R qD ?_
   refine zN qk ?_
   exact z8 (zK ⟨R, R, R⟩ (zd _) (.c 1 R <| .c 2 R <| .c 3 R <| .c 4 R <| .c 5 R <| zd _) qD qD qF)
  refine L.mapEntry (kenc := aK) (venc := iK) (l := dl) (k := x) (z0 := 0) R xd (yo yf zX sc5) zv3 R R qP (fun mt => ?_)
  refine zh R qD ?_
  refine z9 5 R R (zr R R R (z7 (zi 2 R (L.lookup1E (kenc := aK) (venc := iK) (l := Cv.put dl x ((look dl x).getD 0)) (k := x) R xd (yo yf zX sc5) zv3 R R qM ?_))))
  refine zE (t := 10) (u := .int .i64 (val0 dl x)) R (by rw [xH, if_pos R]; rfl) ?_
  refine zh R qD ?_
  refine z9 3 R R (zT R R R jO ?_)
  refine z7 (zi 6 R (L.entryStore (kenc := aK) (venc := iK) (l := Cv.put dl x ((look dl x).getD 0)) (k := x) (v := val0 dl x + 1) R R R R qP ?_))
  rw [put_put]
  refine zh R qD ?_
  refine zN qk ?_
  exact z8 (zK ⟨R, R, R⟩ (zd _) (.c 1 R <| .c 2 R <| .c 3 R <| .c 4 R <| .c 5 R <| zd _) qD qD qF)
 rintro _ _ _ ⟨rfl, rfl, rfl⟩
 refine zM qA qA qA ?_
 refine z8 (O (zf R sc108 R qC ?_))
 refine zx R zI R qN ?_
 refine L.lookup1 (kenc := aK) (venc := iK) (l := (put dl x (val0 dl x + 1))) (k := x) R xd (yo yf zX sc5) zv3 R R qM ?_
 refine zE (t := 16) (u := .int .i64 (val0 dl x + 1)) R (by rw [xH, if_pos R]; rfl) ?_
 refine yy R R R (I (zA R (fun h17 => ?_) (fun h17 => ?_)))
 ·try simp only [dq] at h17
  have hx : x ∈ s.1 := hml.seen.1 h17
  refine zo (zL ?_)
  rw [vis_s hx]
  exact yS (by simp) R ⟨_, _, _, _, C + 1, R, hon, hml.old hx, jO, R, R⟩ qD qF
 try simp only [dq] at h17
 have hx : x ∉ s.1 := fun q => h17 (hml.seen.2 q)
 refine zq (z8 (ze (ze (yx (fun K' D' M' => ∃ (ra : Option Addr) (rn rc : Nat) (rl : List ID32), (rl = refsOf pl x ∧ rl.length = rn) ∧ K' = [(24, .slice ra rn rc), (25, .int .i64 (rn : Int)), (26, .int .i64 0)] ∧ D' = [rsl 32 ra rn rc (rl.map iC)] ∧ M' = [mp bp aK ivV pl]) (M0 := [mp bp aK ivV pl]) (.c 3 R <| .c 4 R <| .c 5 R <| zd _) qS ?_ ?_))))
 ·rcases hlk : look pl x with _ | v
  ·refine yM (sz := 32) (e := 38) ?_
   refine y3 qP (show own 32 38 none 0 0 [] = own 32 38 none 0 0 (([] : List ID32).map iC) from R) ?_
   refine yQ (rows := ([] : List ID32).map iC) qP ?_
   refine xg qk qk (zf R sc63 R qC ?_)
   refine zJ R R ?_
   refine zg R xy R ?_
   refine zf R sc126 R qC ?_
   refine zx R zI R qN ?_
   first | refine L.look1S (kenc := aK) (venc := ivV) (l := pl) (k := x) (v := v) rfl yI (yo yf zX sc5) zv75 rfl rfl qM hlk ?_ | refine L.look1N (kenc := aK) (venc := ivV) (l := pl) (k := x) rfl yI (yo yf zX sc5) zv75 rfl rfl qM hlk ?_
   first | refine L.fieldV rfl Tryz.underlying75 rfl sc32 rfl (iv_33 v) ?_ | refine L.fieldV rfl Tryz.underlying75 rfl sc32 rfl rfl ?_
   exact yb R yh R (E R R (yY (z8 (zK ⟨none, 0, 0, [], ⟨by unfold refsOf; rw [hlk], R⟩, R, R, R⟩ (.c 24 R <| .c 25 R <| .c 26 R <| zd _) (.c 3 R <| .c 4 R <| .c 5 R <| zd _) qD qD qF))))
  have hv3 := inC_len v.1.1 v.2.1 v.2.2.1 v.2.2.2
  have hv32 := v.1.1.1.2
  refine T.fcsIn (L := pl.map iF) qM (iF_in (xR hlk)) ?_
  refine yU (a := v.2.1) (len := v.2.2.1) (cap := v.2.2.2) (rows := v.1.2.map iC) qM (fun hql hqc => ?_)
  rw [List.length_map] at hql
  refine yM (sz := 32) (e := 38) ?_
  refine y3 qP (show own 32 38 none 0 0 [] = own 32 38 none 0 0 (([] : List ID32).map iC) from R) ?_
  refine yQ (rows := ([] : List ID32).map iC) qP ?_
  refine xg qk qk (zf R sc63 R qC ?_)
  refine zJ R R ?_
  refine zg R xy R ?_
  refine zf R sc126 R qC ?_
  refine zx R zI R qN ?_
  first | refine L.look1S (kenc := aK) (venc := ivV) (l := pl) (k := x) (v := v) rfl yI (yo yf zX sc5) zv75 rfl rfl qM hlk ?_ | refine L.look1N (kenc := aK) (venc := ivV) (l := pl) (k := x) rfl yI (yo yf zX sc5) zv75 rfl rfl qM hlk ?_
  first | refine L.fieldV rfl Tryz.underlying75 rfl sc32 rfl (iv_33 v) ?_ | refine L.fieldV rfl Tryz.underlying75 rfl sc32 rfl rfl ?_
  exact yb R yh R (E R R (yY (z8 (zK ⟨v.2.1, v.2.2.1, v.2.2.2, v.1.2, ⟨by unfold refsOf; rw [hlk], hql⟩, R, R, R⟩ (.c 24 R <| .c 25 R <| .c 26 R <| zd _) (.c 3 R <| .c 4 R <| .c 5 R <| zd _) qD qD qF))))
 rintro _ _ _ ⟨ra, rn, rc, rl, ⟨hrl, hrn⟩, rfl, rfl, rfl⟩
 refine zM qA qA qA ?_
 rw [← hrl] at hr8
 refine z8 (zD ?_)
 have hur : rn = 0 ∨ UP pl (s.1 ++ [x]) + 1 ≤ UP pl s.1 := by
  by_cases z : rn = 0
  ·exact .inl z
  exact .inr (UP_lt hx (by rw [← hrl]; intro e; rw [e] at hrn; exact z hrn.symm))
 have hvs : vpot pl (s.1 ++ [x], s.2) = s.1.length + 1 + 9 * UP pl (s.1 ++ [x]) := by unfold vpot; rw [List.length_append]; rfl
 refine yp _ ((((rl.take 0).foldl (fun s y => visF pl f y s) (s.1 ++ [x], s.2)).2).map iC) qP (by rfl) ?_
 refine y8 (fun K' D' M' μ => ∃ (i : Nat) (dl4 : SnM) (oa4 : Option Addr) (on4 oc4 C4 : Nat), (i ≤ rn ∧ ((rl.take i).foldl (fun s y => visF pl f y s) (s.1 ++ [x], s.2)).2.length = on4 ∧ MlR dl4 ((rl.take i).foldl (fun s y => visF pl f y s) (s.1 ++ [x], s.2)).1 C4 ∧ (C4 + 9 * UP pl ((rl.take i).foldl (fun s y => visF pl f y s) (s.1 ++ [x], s.2)).1 ≤ C + 1 + 9 * UP pl (s.1 ++ [x]) + i) ∧ ((rl.take i).foldl (fun s y => visF pl f y s) (s.1 ++ [x], s.2)).2.length + 1 ≤ ((rl.take i).foldl (fun s y => visF pl f y s) (s.1 ++ [x], s.2)).1.length ∧ vpot pl ((rl.take i).foldl (fun s y => visF pl f y s) (s.1 ++ [x], s.2)) ≤ vpot pl (s.1 ++ [x], s.2) + i) ∧ K' = [(26, .int .i64 (i : Int))] ∧ D' = [] ∧ M' = [mp md aK iK dl4, cl bo 32 [.slice oa4 on4 oc4], own 32 38 oa4 on4 oc4 ((((rl.take i).foldl (fun s y => visF pl f y s) (s.1 ++ [x], s.2)).2).map iC), mp bp aK ivV pl] ∧ μ = rn - i) (.c 3 R <| .c 4 R <| .c 5 R <| .c 24 R <| .c 25 R <| zd _) (⟨0, (put dl x (val0 dl x + 1)), oa, on, oc, C + 1, ⟨Nat.zero_le _, hon, hml.new hx, by show C + 1 + 9 * UP pl (s.1 ++ [x]) ≤ _; omega, by show s.2.length + 1 ≤ (s.1 ++ [x]).length; rw [List.length_append, List.length_singleton]; omega, Nat.le_refl _⟩, R, R, R, R⟩) (.c 26 R <| zd _) qD qS ?_
 rintro K1 D1 M1 m1 ⟨i, dl4, oa4, on4, oc4, C4, ⟨hi, ho4, hm4, hC4, hl4, hp4⟩, rfl, rfl, rfl, rfl⟩
 refine zM qA qA qA ?_
 have hb := hp4
 rw [hvs] at hb
 unfold vpot at hb
 refine O (zW R R R (I (ze (zA R (fun h27 => ?_) (fun h27 => ?_)))))
 ·try simp only [dq] at h27
  refine zq (z8 (ze (zD (ze ?_))))
  have hgi : rl[i]? = some (gd rl i) := y9 jO
  obtain ⟨r, hr_⟩ : ∃ y, y = gd rl i := ⟨_, rfl⟩
  rw [← hr_] at hgi
  clear hr_
  have hgr : (rl.map iC)[i]? = some (iC r) := yJ hgi
  have hrr2 := r.2
  have hrr3 := yw r
  refine zt (yP (i := i) R yh sz38 R R qM jR qG (fun b28 o28 => ?_))
  refine zx R zI R (xl qM hrr3) ?_
  refine zC R ze38 (fun b7 => ?_)
  refine zz zI R R qL qO qU qW ?_
  refine zu (zO (A := cl b7 38 (iC r)) qP ?_)
  refine z8 ?_
  have hIH := IH dl4 oa4 on4 oc4 C4 ((rl.take i).foldl (fun s y => visF pl f y s) (s.1 ++ [x], s.2)) r (hd r (by rw [← hrl]; exact List.mem_of_getElem? hgi)) hm4 jO ho4 (by have := hl4; omega) jO
  refine zt (zf R sc165 R qC ?_)
  refine zx R zI R qN ?_
  refine L.callV R R (ev1 R) qD qS (hIH) ?_
  rintro _ _ _ ⟨dl5, oa5, on5, oc5, C5, rfl, ho5, hm5, hC5, rfl, rfl⟩
  refine zm qA qA ?_
  refine zu (zS (z8 (zt (zT R R R jO ?_))))
  refine E R R (zu (z8 ?_))
  have hl5 := vis_len pl f r ((rl.take i).foldl (fun s y => visF pl f y s) (s.1 ++ [x], s.2)) 1 hl4
  have hp5 := vis_pot h8 f r ((rl.take i).foldl (fun s y => visF pl f y s) (s.1 ++ [x], s.2))
  rw [← fold_snoc (g := visF pl f) hgi] at ho5 hm5 hC5 hl5 hp5 ⊢
  exact zV ⟨i + 1, dl5, oa5, on5, oc5, C5, ⟨by omega, ho5, hm5, by omega, hl5, by omega⟩, R, R, R, R⟩ qI (.c 26 R <| zd _) (.c 3 R <| .c 4 R <| .c 5 R <| .c 24 R <| .c 25 R <| zd _) qD qD qF
 try simp only [dq] at h27
 obtain rfl : rn = i := by omega
 rw [List.take_of_length_le jO] at ho4 hm4 hC4 hl4 hp4 hb ⊢
 refine y4 (zG (zG (y5 (z8 (zt (zf R sc32 R qC ?_))))))
 refine zx R zI R qN ?_
 refine yl R bs32 jD (yG R R j1 (Nat.le_of_ble_eq_true R) qR <| zQ (out := []) R) (fun b36 => ?_)
 refine x6 R yh el38 R R qP qM (by rw [List.append_nil]; exact hx3) (fun u hu => by rw [List.append_nil] at hu; exact one_iC u hu) qI qI (fun a37 c37 => ?_)
 refine yj sc32 R R R qU qE ?_
 refine zu (yp _ (((rl.foldl (fun s y => visF pl f y s) (s.1 ++ [x], s.2)).2 ++ [x]).map iC) qP (by rw [List.map_append, List.append_nil]; rfl) ?_)
 rw [vis_n hx (congrArg (fun l => List.foldl (fun s y => visF pl f y s) (s.1 ++ [x], s.2) l) hrl)]
 exact yS (by simp) R ⟨_, _, on4 + 1, _, C4, R, (by rw [List.length_append, ho4]; rfl), hm4, (by dsimp only; omega), R, R⟩ qD qF
theorem visit_spec {br bp bh ba b4 bq bv bo md : Nat} {pl : IvM} (h8 : R8 pl) : ∀ f : Nat, ∀ (dl : SnM) (oa : Option Addr) (on oc C : Nat) (s : VS) (x : ID32), VD pl f x → MlR dl s.1 C → C + 9 * UP pl s.1 ≤ 100000000 → s.2.length = on → s.2.length + 0 ≤ s.1.length → vpot pl s ≤ 1000000 → Spec Tryz.prog 88 (.agg (iC x).toArray :: [.pointer (some ⟨b4, 0, none⟩), .pointer (some ⟨bq, 0, none⟩), .pointer (some ⟨bv, 0, none⟩), .pointer (some ⟨bo, 0, none⟩)]) [cl b4 108 [.map (some md)], cl bq 63 [.pointer (some ⟨br, 0, none⟩)], cl bv 165 [fnV 88 [.pointer (some ⟨b4, 0, none⟩), .pointer (some ⟨bq, 0, none⟩), .pointer (some ⟨bv, 0, none⟩), .pointer (some ⟨bo, 0, none⟩)]], cl br 128 (rgC bp bh ba), ifs pl] [mp md aK iK dl, cl bo 32 [.slice oa on oc], own 32 38 oa on oc ((s.2).map iC), mp bp aK ivV pl] (fun v D' M' => ∃ (dl2 : SnM) (oa2 : Option Addr) (on2 oc2 C2 : Nat), v = .tuple #[] ∧ ((visF pl f x s).2.length = on2) ∧ (MlR dl2 (visF pl f x s).1 C2) ∧ (C2 + 9 * UP pl (visF pl f x s).1 ≤ C + 9 * UP pl s.1 + 1) ∧ D' = [] ∧ M' = [mp md aK iK dl2, cl bo 32 [.slice oa2 on2 oc2], own 32 38 oa2 on2 oc2 (((visF pl f x s).2).map iC), mp bp aK ivV pl])
 | 0, _, _, _, _, _, _, _, hd, _, _, _, _, _ => absurd hd id
 | f + 1, _, _, _, _, _, _, _, hd, h1, h2, h3, h4, h5 => visit_step h8 hd h1 h2 h3 h4 h5 (visit_spec h8 f)
end Cv
set_option maxRecDepth 10000
namespace Cv
open Go Go.Proofs
theorem rev_nx {us : List ID32} {pre : List (Int × ID32)} {m : Nat} {x : ID32} (hm : m + 1 + pre.length = us.length) (h : pre.map (·.2) = us.reverse.take pre.length) (g : us[m]? = some x) (k : Int) : (pre ++ [(k, x)]).map (·.2) = us.reverse.take (pre ++ [(k, x)]).length := by
  have e : us.reverse[pre.length]? = some x := by
    rw [List.getElem?_reverse (by omega), show us.length - 1 - pre.length = m by omega]; exact g
  rw [List.map_append, h, List.length_append, List.length_singleton, List.take_add_one, e]; rfl
theorem rev_fin {us : List ID32} {pre : List (Int × ID32)} (hm : pre.length = us.length) (h : pre.map (·.2) = us.reverse.take pre.length) : pre.map (·.2) = us.reverse := by
  rw [h, List.take_of_length_le (by rw [List.length_reverse]; omega)]
def ddF (lv : List ID32) (l : List ID32) : List ID32 := l.filter fun x => decide (x ∉ lv)
theorem ddF_t {lv l : List ID32} {x : ID32} (h : x ∉ lv) : ddF lv (l ++ [x]) = ddF lv l ++ [x] := by
  unfold ddF; rw [List.filter_append]
  have : [x].filter (fun x => decide (x ∉ lv)) = [x] := by simp [h]
  rw [this]
theorem ddF_f {lv l : List ID32} {x : ID32} (h : x ∈ lv) : ddF lv (l ++ [x]) = ddF lv l := by
  unfold ddF; rw [List.filter_append]
  have : [x].filter (fun x => decide (x ∉ lv)) = [] := by simp [h]
  rw [this, List.append_nil]
theorem ddF_le (lv l : List ID32) : (ddF lv l).length ≤ l.length := List.length_filter_le _ _
structure OrdF (pl : IvM) (us : List ID32) : Prop where
  ex : ∃ ks, KeysF (pl.map Prod.fst) ks ∧ us = (ks.foldl (fun s y => visF pl 9 y s) ([], [])).2
structure LivF (os : List Ob) (hl al : SnM) (lv : List ID32) : Prop where
  ex : ∃ hs qs, KeysF (hl.map Prod.fst) hs ∧ KeysF (al.map Prod.fst) qs ∧ RchF os (hs ++ qs) lv
theorem fold_vlen (pl : IvM) (f : Nat) : ∀ (l : List ID32) (s : VS), s.2.length ≤ s.1.length → (l.foldl (fun s y => visF pl f y s) s).2.length ≤ (l.foldl (fun s y => visF pl f y s) s).1.length
  | [], s, h => h
  | y :: l, s, h => by rw [List.foldl_cons]; exact fold_vlen pl f l _ (vis_len pl f y s 0 h)
theorem fold_vpot {pl : IvM} (h8 : R8 pl) (f : Nat) : ∀ (l : List ID32) (s : VS), vpot pl (l.foldl (fun s y => visF pl f y s) s) ≤ vpot pl s + l.length
  | [], s => Nat.le_refl _
  | y :: l, s => by
    have a := vis_pot h8 f y s
    have b := fold_vpot h8 f l (visF pl f y s)
    rw [List.foldl_cons, List.length_cons]; omega
theorem ord_len {pl : IvM} (hm : pl.length ≤ 1000) (h8 : R8 pl) {us : List ID32} (h : OrdF pl us) : us.length ≤ 10000 := by
  obtain ⟨ks, hk, rfl⟩ := h.ex
  have a := fold_vlen pl 9 ks ([], []) (Nat.le_refl _)
  have b := fold_vpot h8 9 ks ([], [])
  have c := hk.len
  rw [List.length_map] at c
  have d : UP pl [] ≤ pl.length := List.length_filter_le _ _
  have e : vpot pl ([], []) = 0 + 9 * UP pl [] := rfl
  have g : ∀ s : VS, s.1.length ≤ vpot pl s := fun s => Nat.le_add_right _ _
  have := g (ks.foldl (fun s y => visF pl 9 y s) ([], []))
  omega

theorem order_spec {br bp bh ba : Nat} {pl : IvM}  (hm : pl.length ≤ 12) (h8 : R8 pl) (hd : ∀ x ∈ pl.map Prod.fst, VD pl 9 x) : Spec Tryz.prog 44 [.pointer (some ⟨br, 0, none⟩)] [cl br 128 (rgC bp bh ba), ifs pl] [mp bp aK ivV pl] (fun v D' M' => ∃ (a' : Option Addr) (n' c' : Nat) (us : List ID32), v = .slice a' n' c' ∧ (OrdF pl us) ∧ (us.length = n') ∧ D' = [] ∧ M' = [mp bp aK ivV pl, own 32 38 a' n' c' ((us).map iC)]) := by
 refine zv (n := 22) Tryz.func44 ?_
 intro σ D M
 have hup0 : UP pl [] ≤ pl.length := List.length_filter_le _ _
 refine O (y6 R R R (fun b1 => ?_))
 refine V R R (zu (zO (A := cl b1 63 [.pointer (some ⟨br, 0, none⟩)]) qP ?_))
 refine z8 (O (zC R ze32 (fun b3 => ?_)))
 refine zu (yM (sz := 32) (e := 38) ?_)
 refine y3 qP (show own 32 38 none 0 0 [] = own 32 38 none 0 0 (([] : List ID32).map iC) from R) ?_
 refine z8 (O (xN aK iK R (fun md => ?_)))
 refine zC R ze108 (fun b4 => ?_)
 refine yj sc108 R R R qU qE ?_
 refine zu (zO (A := cl b4 108 [.map (some md)]) qP ?_)
 refine z8 (O (zC R ze165 (fun b5 => ?_)))
 refine I (O (xP R (ev4 R R R R) ?_))
 refine yj sc165 R R R qU qE ?_
 refine zu (zO (A := cl b5 165 [fnV 88 [.pointer (some ⟨b4, 0, none⟩), .pointer (some ⟨b1, 0, none⟩), .pointer (some ⟨b5, 0, none⟩), .pointer (some ⟨b3, 0, none⟩)]]) qP ?_)
 refine z8 (ze (O (zf R sc63 R qC ?_)))
 refine zp R (ev1 R) qD qS (paths_spec (pl := pl) jO) ?_
 rintro _ _ _ ⟨ka, kn, kc, ks, rfl, hkf, hkn, rfl, rfl⟩
 refine zm qA qA ?_
 have hkl := hkf.len
 rw [List.length_map] at hkl
 refine yb R yh R (E R R (zu (yQ (rows := ks.map iC) qP ?_)))
 refine z8 (zD (yp _ ((((ks.take 0).foldl (fun s y => visF pl 9 y s) ([], [])).2).map iC) qP (by rfl) ?_))
 refine y8 (fun K' D' M' μ => ∃ (i : Nat) (dl : SnM) (oa : Option Addr) (on oc C : Nat), (i ≤ kn ∧ ((ks.take i).foldl (fun s y => visF pl 9 y s) ([], [])).2.length = on ∧ MlR dl ((ks.take i).foldl (fun s y => visF pl 9 y s) ([], [])).1 C ∧ (C + 9 * UP pl ((ks.take i).foldl (fun s y => visF pl 9 y s) ([], [])).1 ≤ 9 * UP pl [] + i) ∧ ((ks.take i).foldl (fun s y => visF pl 9 y s) ([], [])).2.length + 0 ≤ ((ks.take i).foldl (fun s y => visF pl 9 y s) ([], [])).1.length ∧ vpot pl ((ks.take i).foldl (fun s y => visF pl 9 y s) ([], [])) ≤ 9 * UP pl [] + i) ∧ K' = [(13, .int .i64 (i : Int))] ∧ D' = [] ∧ M' = [mp md aK iK dl, cl b3 32 [.slice oa on oc], own 32 38 oa on oc ((((ks.take i).foldl (fun s y => visF pl 9 y s) ([], [])).2).map iC), mp bp aK ivV pl] ∧ μ = kn - i) (.c 3 R <| .c 5 R <| .c 11 R <| .c 12 R <| zd _) (⟨0, [], none, 0, 0, 0, ⟨Nat.zero_le _, R, .start, by show 0 + 9 * UP pl [] ≤ _; omega, Nat.le_refl _, by show 0 + 9 * UP pl [] ≤ _; omega⟩, R, R, R, R⟩) (.c 13 R <| zd _) qD qS ?_
 rintro K1 D1 M1 m1 ⟨i, dl, oa, on, oc, C, ⟨hi, ho4, hm4, hC4, hl4, hp4⟩, rfl, rfl, rfl, rfl⟩
 refine zM qA qA qA ?_
 refine O (zW R R R (I (ze (zA R (fun h14 => ?_) (fun h14 => ?_)))))
 ·try simp only [dq] at h14
  refine zq (z8 (ze (zD (ze ?_))))
  have hgi : ks[i]? = some (gd ks i) := y9 jO
  obtain ⟨x, hx_⟩ : ∃ y, y = gd ks i := ⟨_, rfl⟩
  rw [← hx_] at hgi
  clear hx_
  have hgr : (ks.map iC)[i]? = some (iC x) := yJ hgi
  have hx2 := x.2
  have hx3 := yw x
  have hxk : x ∈ pl.map Prod.fst := (hkf.mem x).1 (List.mem_of_getElem? hgi)
  refine zt (yP (i := i) R yh sz38 R R qM jR qG (fun b15 o15 => ?_))
  refine zx R zI R (xl qM hx3) ?_
  refine zC R ze38 (fun b7 => ?_)
  refine zz zI R R qL qO qU qW ?_
  refine zu (zO (A := cl b7 38 (iC x)) qP ?_)
  refine z8 ?_
  have hV := visit_spec (br := br) (bp := bp) (bh := bh) (ba := ba) (b4 := b4) (bq := b1) (bv := b5) (bo := b3) (md := md) h8 9 dl oa on oc C ((ks.take i).foldl (fun s y => visF pl 9 y s) ([], [])) x (hd x hxk) hm4 jO ho4 hl4 jO
  refine zt (zf R sc165 R qC ?_)
  refine zx R zI R qN ?_
  refine L.callV R R (ev1 R) qD qS (hV) ?_
  rintro _ _ _ ⟨dl5, oa5, on5, oc5, C5, rfl, ho5, hm5, hC5, rfl, rfl⟩
  refine zm qA qA ?_
  refine zu (zS (z8 (zt (zT R R R jO ?_))))
  refine E R R (zu (z8 ?_))
  have hl5 := vis_len pl 9 x ((ks.take i).foldl (fun s y => visF pl 9 y s) ([], [])) 0 hl4
  have hp5 := vis_pot h8 9 x ((ks.take i).foldl (fun s y => visF pl 9 y s) ([], []))
  rw [← fold_snoc (g := visF pl 9) hgi] at ho5 hm5 hC5 hl5 hp5 ⊢
  exact zV ⟨i + 1, dl5, oa5, on5, oc5, C5, ⟨by omega, ho5, hm5, by omega, hl5, by omega⟩, R, R, R, R⟩ qI (.c 13 R <| zd _) (.c 3 R <| .c 5 R <| .c 11 R <| .c 12 R <| zd _) qD qD qF
 try simp only [dq] at h14
 obtain rfl : kn = i := by omega
 rw [List.take_of_length_le jO] at ho4 ⊢
 refine y4 (zG (zG (y5 (z8 (O (zf R sc32 R qC ?_))))))
 exact V R R (I (zo (zy R R ⟨_, _, _, _, R, ⟨ks, hkf, R⟩, ho4, R, R⟩ qD qF)))
theorem live_spec {bp bh ba : Nat} {ka bs br bd bb tn n : Nat} {k : Dk} {rs : List Rc} {os : List Ob} {hl al : SnM} (hn : n ≤ 3000) (hs : Shf os) (hhm : hl.length ≤ 12) (ham : al.length ≤ 12) (h12 : 9 * kn3 os + (hl.length + al.length) ≤ 12) (hol : os.length = n) (hos : osR rs = os) : Spec Tryz.prog 85 [.pointer (some ⟨br, 0, none⟩), .iface 103 (.pointer (some ⟨ka, 0, none⟩))] [cl br 128 (rgC bp bh ba), cl k.bd 51 [.pointer (some ⟨k.bf, 0, none⟩), .slice (some ⟨k.sb, 0, none⟩) k.n k.n, .map (some k.bl)]] [asA ka bs br bd bb k tn rs, mp bh aK iK hl, mp ba aK iK al] (fun v D' M' => ∃ (a' : Option Addr) (n' c' : Nat) (us : List ID32), v = .slice a' n' c' ∧ (LivF os hl al us) ∧ (us.length = n') ∧ D' = [] ∧ M' = [asA ka bs br bd bb k tn rs, mp bh aK iK hl, mp ba aK iK al, own 32 38 a' n' c' ((us).map iC)]) := by
 refine zv (n := 12) Tryz.func85 ?_
 intro σ D M
 refine O (V R R (I (O (E R R (E R R (zp R (ev1 R) qD qS (held_spec (hl := hl) jO) ?_))))))
 rintro _ _ _ ⟨ha, hn_, hc, hs_, rfl, hhf, hhn, rfl, rfl⟩
 refine zm qA qA ?_
 have hhl := hhf.len
 rw [List.length_map] at hhl
 refine E R R (zp R (ev1 R) qD qS (asked_spec (al := al) jO) ?_)
 rintro _ _ _ ⟨qa, qn, qc, as_, rfl, haf, han, rfl, rfl⟩
 refine zm qA qA ?_
 have hal := haf.len
 rw [List.length_map] at hal
 refine xC R yh yh el38 R R qP (rd_M qM) one_ics qI qI (fun a10 c10 => ?_)
 refine L.ownEq _ ((hs_ ++ as_).map iC) qP (by rw [List.map_append]) ?_
 refine yF (rows := (hs_ ++ as_).map iC) qP ?_
 refine zp R (ev2 R R) qD qS (reach_spec (os := os) (l := hs_ ++ as_) jO hs jO jO hol hos) ?_
 rintro _ _ _ ⟨ra, rn, rc, us, rfl, hrf, hrn, hrb, rfl, rfl⟩
 refine zm qA qA ?_
 exact V R R (I (zo (zy R R ⟨_, _, _, us, R, ⟨hs_, as_, hhf, haf, hrf⟩, hrn, R, R⟩ qD qF)))
end Cv
set_option maxRecDepth 10000
namespace Cv
open Go Go.Proofs
structure GdR (os : List Ob) (l acc : List ID32) : Prop where
  asc : acc.Pairwise (fun x y => x.1 < y.1)
  rch : ∀ z ∈ acc, Rch os l z
  all : ∀ z ∈ l, z ∈ acc
def cand (os : List Ob) (l : List ID32) : List ID32 := l ++ os.flatMap fun o => (lkR os o.2.1).2.1
theorem cand_len (os : List Ob) (l : List ID32) : (cand os l).length ≤ l.length + 8 * os.length := by
  have : ∀ r : List Ob, (r.flatMap fun o => (lkR os o.2.1).2.1).length ≤ 8 * r.length := fun r => by
    induction r with
    | nil => exact Nat.le_refl _
    | cons o r ih => have := lkR_len os o.2.1; rw [List.flatMap_cons, List.length_append, List.length_cons]; omega
  have := this os
  unfold cand; rw [List.length_append]; omega
theorem rch_cand {os : List Ob} {l : List ID32} {z : ID32} (h : Rch os l z) : z ∈ cand os l := by
  cases h with
  | base h => exact List.mem_append_left _ h
  | step h k m =>
    obtain ⟨o, ho, rfl⟩ := lkR_mem k
    exact List.mem_append_right _ (List.mem_flatMap.2 ⟨o, ho, m⟩)
theorem GdR.len {os : List Ob} {l acc : List ID32} (h : GdR os l acc) : acc.length ≤ l.length + 8 * os.length :=
  Nat.le_trans (nd_len (asc_nd h.asc) fun z hz => rch_cand (h.rch z hz)) (cand_len os l)
theorem RchF.len {os : List Ob} {l us : List ID32} (h : RchF os l us) : us.length ≤ l.length + 8 * os.length := GdR.len ⟨h.asc, fun z hz => (h.mem z).1 hz, fun z hz => (h.mem z).2 (.base hz)⟩
theorem liv_len {os : List Ob} {hl al : SnM} {lv : List ID32} (h1 : hl.length ≤ 100) (h2 : al.length ≤ 100) (h : LivF os hl al lv) : lv.length ≤ 200 + 8 * os.length := by
  obtain ⟨hs, qs, a, b, c⟩ := h.ex
  have l1 := a.len
  have l2 := b.len
  have l3 := c.len
  rw [List.length_map] at l1 l2
  rw [List.length_append] at l3
  omega

theorem back1_spec {us : List ID32} {sa : Option Addr} {sn sc bs l : Nat} {ψ : Asn} {J : List (Int × ID32) → Asn} (hn : sn ≤ 1000000) (hY : ∀ (pre : List (Int × ID32)) (x : Int × ID32), pre.length < us.length → YSpec Tryz.prog l [.int .i64 x.1, .agg (iC x.2).toArray] [ψ] [J pre] (fun v D' M' => v = .bool true ∧ D' = [] ∧ M' = [J (pre ++ [x])])) : Spec Tryz.prog 140 [fnY l, .pointer (some ⟨bs, 0, none⟩)] [fcs [cl bs 32 [.slice sa sn sc], rsl 32 sa sn sc (us.map iC)], ψ] [all [], J []] (fun v D' M' => ∃ (xs : List (Int × ID32)), v = .tuple #[] ∧ (xs.map (·.2) = us.reverse) ∧ D' = [] ∧ M' = [all [], J xs]) := by
 refine zv (n := 19) Tryz.func140 ?_
 intro σ D M
 refine T.fcsIn (φ := cl bs 32 [.slice sa sn sc]) (L := [cl bs 32 [.slice sa sn sc], rsl 32 sa sn sc (us.map iC)]) qM (List.mem_cons_self ..) ?_
 refine T.fcsIn (φ := rsl 32 sa sn sc (us.map iC)) (L := [cl bs 32 [.slice sa sn sc], rsl 32 sa sn sc (us.map iC)]) qM (List.mem_cons_of_mem _ (List.mem_cons_self ..)) ?_
 refine yU (a := sa) (len := sn) (cap := sc) (rows := us.map iC) qM (fun hul huc => ?_)
 rw [List.length_map] at hul
 refine O (zf R sc32 R qC ?_)
 refine yb R yh R (yt R R R jO ?_)
 refine V R R (I (zD (y8 (fun K' D' M' μ => ∃ (i : Int) (pre : List (Int × ID32)), ((-1 ≤ i ∧ i + 1 + pre.length = sn) ∧ pre.map (·.2) = us.reverse.take pre.length) ∧ K' = [(3, .int .i64 i)] ∧ D' = [] ∧ M' = [all [], J pre] ∧ μ = (i + 1).toNat) (.c 0 R <| .c 1 R <| zd _) (⟨(sn : Int) - 1, [], ⟨by show (-1 : Int) ≤ (sn : Int) - 1 ∧ (sn : Int) - 1 + 1 + ((0 : Nat) : Int) = sn; omega, R⟩, R, R, R, R⟩) (.c 3 R <| zd _) qD qS ?_)))
 rintro K1 D1 M1 m1 ⟨i, pre, ⟨hi, hpe⟩, rfl, rfl, rfl, rfl⟩
 refine zM qA qA qA ?_
 refine ze (O (E R R (L.geI R R R (I (zA R (fun h8 => ?_) (fun h8 => ?_))))))
 ·try simp only [dq] at h8
  refine zq (z8 (ze (zD (ze ?_))))
  obtain ⟨m, rfl⟩ : ∃ m : Nat, i = (m : Int) := ⟨i.toNat, by omega⟩
  have hgi : us[m]? = some (gd us m) := y9 jO
  obtain ⟨x, hx_⟩ : ∃ y, y = gd us m := ⟨_, rfl⟩
  rw [← hx_] at hgi
  clear hx_
  have hgr : (us.map iC)[m]? = some (iC x) := yJ hgi
  have hx2 := x.2
  have hx3 := yw x
  refine zt (E R R (E R R (zf R sc32 R qC ?_)))
  refine E R R (yP (i := m) R yh sz38 R R qM jR qG (fun b15 o15 => ?_))
  refine zx R zI R (xl qM hx3) ?_
  refine L.callY (M0 := [J pre]) R R R (evs.cons R <| evs.cons R xu) qD qS (hY pre ((m : Int), x) jO) ?_
  rintro _ _ _ ⟨rfl, rfl, rfl⟩
  refine zm qA qA ?_
  refine x7 R R (I (zR R R ?_))
  refine zq (zS (z8 (zt (E R R (yt R R R jO ?_)))))
  exact V R R (I (zV ⟨(m : Int) - 1, pre ++ [((m : Int), x)], ⟨by rw [List.length_append, List.length_singleton]; omega, rev_nx jO hpe hgi _⟩, R, R, R, R⟩ jO (.c 3 R <| zd _) (.c 0 R <| .c 1 R <| zd _) qD qD qF))
 try simp only [dq] at h8
 exact y4 (zG (zG (y5 (yS (by simp) R ⟨pre, R, rev_fin jO hpe, R, R⟩ qD qF))))
theorem back_iter {us : List ID32} {sa : Option Addr} {sn sc bs : Nat} (hn : sn ≤ 1000000) : Iter Tryz.prog 140 [.pointer (some ⟨bs, 0, none⟩)] (fun p : Int × ID32 => [.int .i64 p.1, .agg (iC p.2).toArray]) (fun (pre : List (Int × ID32)) _ => pre.length < us.length) (fcs [cl bs 32 [.slice sa sn sc], rsl 32 sa sn sc (us.map iC)]) (all []) (all []) (fun xs => xs.map (·.2) = us.reverse) :=
 ⟨fun l ψ J hY => (back1_spec hn hY).imp (fun v D' M' ⟨xs, _, h2, h3, h4⟩ => ⟨xs, h2, h3, h4⟩)⟩
theorem back_spec {us : List ID32} {sa : Option Addr} {sn sc : Nat}  : Spec Tryz.prog 86 [.slice sa sn sc] [rsl 32 sa sn sc (us.map iC)] [] (fun v D' M' => ∃ (bs : Nat), v = fnV 140 [.pointer (some ⟨bs, 0, none⟩)] ∧ D' = [fcs [cl bs 32 [.slice sa sn sc], rsl 32 sa sn sc (us.map iC)]] ∧ M' = []) := by
 refine zv (n := 4) Tryz.func86 ?_
 intro σ D M
 refine O (y6 R R R (fun b1 => ?_))
 refine V R R (zu (zO (A := cl b1 32 [.slice sa sn sc]) qP ?_))
 refine T.fcsNil ?_
 refine T.fcsAdd (φ := rsl 32 sa sn sc (us.map iC)) (L := []) qM qM ?_
 refine T.fcsAdd (φ := cl b1 32 [.slice sa sn sc]) (L := [rsl 32 sa sn sc (us.map iC)]) qM qM ?_
 refine z8 (O (xP R (ev1 R) ?_))
 exact V R R (I (zo (zy R R ⟨b1, R, R, R⟩ qD qF)))
theorem dead_spec {bp bh ba : Nat} {pl : IvM} {ka bs br bd bb tn n : Nat} {k : Dk} {rs : List Rc} {os : List Ob} {hl al : SnM} (hn : n ≤ 3000) (hs : Shf os) (hhm : hl.length ≤ 12) (ham : al.length ≤ 12) (hm : pl.length ≤ 12) (h8 : R8 pl) (hd : ∀ x ∈ pl.map Prod.fst, VD pl 9 x) (h12 : 9 * kn3 os + (hl.length + al.length) ≤ 12) (hol : os.length = n) (hos : osR rs = os) : Spec Tryz.prog 42 [.pointer (some ⟨br, 0, none⟩), .iface 103 (.pointer (some ⟨ka, 0, none⟩))] [cl br 128 (rgC bp bh ba), cl k.bd 51 [.pointer (some ⟨k.bf, 0, none⟩), .slice (some ⟨k.sb, 0, none⟩) k.n k.n, .map (some k.bl)], ifs pl] [asA ka bs br bd bb k tn rs, mp bp aK ivV pl, mp bh aK iK hl, mp ba aK iK al] (fun v D' M' => ∃ (a' : Option Addr) (n' c' : Nat) (lv us : List ID32), v = .slice a' n' c' ∧ (LivF os hl al lv) ∧ (OrdF pl us) ∧ ((ddF lv us.reverse).length = n') ∧ D' = [] ∧ M' = [asA ka bs br bd bb k tn rs, mp bp aK ivV pl, mp bh aK iK hl, mp ba aK iK al, own 32 38 a' n' c' ((ddF lv us.reverse).map iC)]) := by
 refine zv (n := 32) Tryz.func42 ?_
 intro σ D M
 skip
 refine O (V R R (I (O (E R R (E R R (zp R (ev2 R R) qD qS (live_spec (os := os) hn hs hhm ham h12 hol hos) ?_))))))
 rintro _ _ _ ⟨la, ln, lc, lv, rfl, hlv, hln, rfl, rfl⟩
 refine zm qA qA ?_
 obtain ⟨_, _, _, _, hlr⟩ := hlv.ex
 refine zC R ze32 (fun b5 => ?_)
 refine yj sc32 R R R qU qE ?_
 refine zu (yQ (rows := lv.map iC) qP ?_)
 refine zO (A := cl b5 32 [.slice la ln lc]) qP ?_
 have hlb := liv_len jO jO hlv
 refine z8 (O (zC R ze32 (fun b6 => ?_)))
 refine zu (yM (sz := 32) (e := 38) ?_)
 refine y3 qP (show own 32 38 none 0 0 [] = own 32 38 none 0 0 ((ddF lv (([] : List (Int × ID32)).map (·.2))).map iC) from R) ?_
 refine T.emp ?_
 refine z8 (ze (O (E R R (zp R (ev1 R) qD qS (order_spec (pl := pl) hm h8 hd) ?_))))
 rintro _ _ _ ⟨oa, on, oc, us, rfl, hof, hun, rfl, rfl⟩
 refine zm qA qA ?_
 have hul := ord_len jO h8 hof
 refine yF (rows := us.map iC) qP ?_
 refine zp R (ev1 R) qD qS (back_spec (us := us)) ?_
 rintro _ _ _ ⟨bs, rfl, rfl, rfl⟩
 refine zm qA qA ?_
 refine I (zD (T.mkJ (J := (fun (pre : List (Int × ID32)) => exs fun (ea : Option Addr) => exs fun (en : Nat) => exs fun (ec : Nat) => pur ((ddF lv (pre.map (·.2))).length = en ∧ pre.length ≤ us.length) (all [cl b6 32 [.slice ea en ec], own 32 38 ea en ec (((ddF lv (pre.map (·.2)))).map iC)]) : List (Int × ID32) → Asn) []) (L := (fun (pre : List (Int × ID32)) (ea : Option Addr) (en : Nat) (ec : Nat) => ([cl b6 32 [.slice ea en ec], own 32 38 ea en ec (((ddF lv (pre.map (·.2)))).map iC)] : List Asn)) [] (none) (0) (0)) qS (yO (none) (yO (0) (yO (0) (pur.in ⟨R, Nat.zero_le _⟩ (Ent.refl _))))) ?_))
 refine T.rangeFunc (encs := fun p : Int × ID32 => [.int .i64 p.1, .agg (iC p.2).toArray]) (back_iter (us := us) (bs := bs) (sa := oa) (sn := on) (sc := oc) jO) R qk (fun _ => rfl) jD (fun p => [(18, .agg (iC p.2).toArray), (17, .int .i64 p.1)]) (fun _ => rfl) [cl b5 32 [.slice la ln lc], rsl 32 la ln lc (lv.map iC)] (fun (pre : List (Int × ID32)) => exs fun (ea : Option Addr) => exs fun (en : Nat) => exs fun (ec : Nat) => pur ((ddF lv (pre.map (·.2))).length = en ∧ pre.length ≤ us.length) (all [cl b6 32 [.slice ea en ec], own 32 38 ea en ec (((ddF lv (pre.map (·.2)))).map iC)]) : List (Int × ID32) → Asn) (.c 5 R <| .c 6 R <| zd _) qD qD qS ?_ ?_
 ·intro σ1 l1 r1 pre x D1 M1 hok hr1
  refine T.norm2 qA qA ?_
  refine xk qP (fun ea => ?_)
  refine xk qP (fun en => ?_)
  refine xk qP (fun ec => ?_)
  refine T.pur qP (fun hJ => ?_)
  obtain ⟨hel, hpl⟩ := hJ
  refine T.unfold _ qP R qA ?_
  have hx2 := x.2.2
  have hx3 := yw x.2
  have hdl := ddF_le lv (pre.map (·.2))
  rw [List.length_map] at hdl
  have hok2 : pre.length < us.length := hok
  refine zt (zC R ze38 (fun b8 => ?_))
  refine zz zI R R qL qO qU qW ?_
  refine zu (zO (A := cl b8 38 (iC x.2)) qP ?_)
  refine z8 (T.begin hr1.1 qP ?_)
  refine zD (O (zf R sc32 R qC ?_))
  refine zx R zI R qN ?_
  refine zp R (ev3 R R R) qD qS (bsrch_spec (l := lv) (z := x.2) hlr.asc jO) ?_
  rintro _ _ _ ⟨k, rfl, rfl, rfl⟩
  refine zm qA qA ?_
  refine E R R (zr R R R (zr R R R (V R R (V R R (I (O (E R R (x7 R R (I (zA R (fun h26 => ?_) (fun h26 => ?_)))))))))))
  ·try simp only [dq] at h26
   have h26 : x.2 ∉ lv := by simpa using h26
   refine zt (zf R sc32 R qC ?_)
   refine zx R zI R qN ?_
   refine yl R bs32 jD (yG R R j1 (Nat.le_of_ble_eq_true R) qR <| zQ (out := []) R) (fun b29 => ?_)
   refine x6 R yh el38 R R qP qM (by rw [List.append_nil]; exact hx3) (fun u hu => by rw [List.append_nil] at hu; exact one_iC u hu) qI qI (fun a30 c30 => ?_)
   refine yj sc32 R R R qU qE ?_
   refine zu (zS (yp _ ((ddF lv ((pre ++ [x]).map (·.2))).map iC) qP (by rw [List.map_append, List.map_singleton, ddF_t h26, List.map_append, List.append_nil]; rfl) ?_))
   refine T.mkJ (J := (fun (pre : List (Int × ID32)) => exs fun (ea : Option Addr) => exs fun (en : Nat) => exs fun (ec : Nat) => pur ((ddF lv (pre.map (·.2))).length = en ∧ pre.length ≤ us.length) (all [cl b6 32 [.slice ea en ec], own 32 38 ea en ec (((ddF lv (pre.map (·.2)))).map iC)]) : List (Int × ID32) → Asn) (pre ++ [x])) (L := (fun (pre : List (Int × ID32)) (ea : Option Addr) (en : Nat) (ec : Nat) => ([cl b6 32 [.slice ea en ec], own 32 38 ea en ec (((ddF lv (pre.map (·.2)))).map iC)] : List Asn)) (pre ++ [x]) (_) (en + 1) (_)) qS (yO (_) (yO (en + 1) (yO (_) (pur.in ⟨by rw [List.map_append, List.map_singleton, ddF_t h26, List.length_append, hel]; rfl, by rw [List.length_append, List.length_singleton]; omega⟩ (Ent.refl _))))) ?_
   exact T.roundEnd hr1 qP qD qF
  try simp only [dq] at h26
  have h26 : ¬ x.2 ∉ lv := by simpa using h26
  refine zq (zS (yp _ ((ddF lv ((pre ++ [x]).map (·.2))).map iC) qP (by rw [List.map_append, List.map_singleton, ddF_f (Decidable.not_not.1 h26)]) ?_))
  refine T.mkJ (J := (fun (pre : List (Int × ID32)) => exs fun (ea : Option Addr) => exs fun (en : Nat) => exs fun (ec : Nat) => pur ((ddF lv (pre.map (·.2))).length = en ∧ pre.length ≤ us.length) (all [cl b6 32 [.slice ea en ec], own 32 38 ea en ec (((ddF lv (pre.map (·.2)))).map iC)]) : List (Int × ID32) → Asn) (pre ++ [x])) (L := (fun (pre : List (Int × ID32)) (ea : Option Addr) (en : Nat) (ec : Nat) => ([cl b6 32 [.slice ea en ec], own 32 38 ea en ec (((ddF lv (pre.map (·.2)))).map iC)] : List Asn)) (pre ++ [x]) (_) (en) (_)) qS (yO (_) (yO (en) (yO (_) (pur.in ⟨by rw [List.map_append, List.map_singleton, ddF_f (Decidable.not_not.1 h26)]; exact hel, by rw [List.length_append, List.length_singleton]; omega⟩ (Ent.refl _))))) ?_
  exact T.roundEnd hr1 qP qD qF
 intro b1 xs hxs
 refine xk qP (fun ea => ?_)
 refine xk qP (fun en => ?_)
 refine xk qP (fun ec => ?_)
 refine T.pur qP (fun hJ => ?_)
 obtain ⟨hel, hpl⟩ := hJ
 refine T.unfold _ qP R qA ?_
 refine zS (z8 (O (zf R sc32 R qC ?_)))
 refine V R R (I (zo (T.unmark (.inl R) qP ?_)))
 rw [hxs] at hel ⊢
 exact zy R R ⟨_, _, _, lv, us, R, hlv, hof, hel, R, R⟩ qD qF
end Cv
