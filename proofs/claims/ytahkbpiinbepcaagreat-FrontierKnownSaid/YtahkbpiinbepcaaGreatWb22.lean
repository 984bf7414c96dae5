/-
  The walks: what is needed is told.
-/
import Derived.Test.YtahkbpiinbepcaaGreatTb22
import Derived.Test.YtahkbpiinbepcaaGreatProg
import Derived.KernelRfl
set_option linter.unusedVariables false
set_option linter.unusedSimpArgs false
set_option linter.unusedSectionVars false
set_option maxRecDepth 10000
namespace Cv
open Go Go.Proofs
/-! ## what is needed is told -/
def tldT (t x : List UInt8) (m : Nat) : Prop := ∃ p, p < m ∧ p + 32 ≤ t.length ∧ (t.drop p).take 32 = x
def Told (os : List Ob) (x : ID32) : Prop := ∃ o ∈ os, ∃ p, p + 32 ≤ o.2.2.length ∧ (o.2.2.drop p).take 32 = x.1
theorem told_of {os : List Ob} {o : Ob} {x : ID32} {a b : List UInt8} (h : o ∈ os) (e : o.2.2 = a ++ (x.1 ++ b)) : Told os x := by
  have hx := x.2
  refine ⟨o, h, a.length, by rw [e, List.length_append, List.length_append]; omega, ?_⟩
  rw [e, List.drop_left' rfl]; exact List.take_left' hx
theorem told_fl {f : Pt → List UInt8} (hf : ∀ q : Pt, ∃ b, f q = q.1.1 ++ b) {l : List Pt} {q : Pt} (h : q ∈ l) : ∃ a b, l.flatMap f = a ++ (q.1.1 ++ b) := by
  obtain ⟨l1, l2, rfl⟩ := List.append_of_mem h
  obtain ⟨b, hb⟩ := hf q
  refine ⟨l1.flatMap f, b ++ l2.flatMap f, ?_⟩
  rw [List.flatMap_append, List.flatMap_cons, hb, List.append_assoc]
theorem told_nd {os : List Ob} {k : Nat} {g : List Pt} {q : Pt} (h : uob k g ∈ os) (hq : q ∈ g) : Told os q.1 := by
  obtain ⟨a, b, e⟩ := told_fl (f := ptB) (fun q => ⟨numB q.2.toNat, rfl⟩) hq
  refine told_of (a := numB k ++ numB g.length ++ a) (b := b) h ?_
  rw [uob_tx]
  unfold nodeT nodeP
  rw [List.take_length, e]; simp only [List.append_assoc]
theorem told_rt {os : List Ob} {n : Nat} (h : pth n ∈ os) : Told os (md n).1.1 := by
  refine told_of (a := []) (b := numB (md n).1.2.toNat ++ idsB (md n).2.1) h ?_
  simp only [pth, inT, List.nil_append, List.append_assoc]
theorem told_rf {os : List Ob} {n : Nat} (h : pth n ∈ os) {r : ID32} (hr : r ∈ (md n).2.1) : Told os r := by
  obtain ⟨l1, l2, e⟩ := List.append_of_mem hr
  refine told_of (a := (md n).1.1.1 ++ numB (md n).1.2.toNat ++ numB (md n).2.1.length ++ l1.flatMap (·.1)) (b := l2.flatMap (·.1)) h ?_
  have e0 : (md n).2.1.flatMap (·.1) = l1.flatMap (·.1) ++ (r.1 ++ l2.flatMap (·.1)) := by rw [e, List.flatMap_append, List.flatMap_cons]
  have : idsB (md n).2.1 = numB (md n).2.1.length ++ (l1.flatMap (·.1) ++ (r.1 ++ l2.flatMap (·.1))) := by
    rw [← e0]; unfold idsB idsI; rw [List.take_length]
  simp only [pth, inT]
  rw [this]; simp only [List.append_assoc]
def TK (os : List Ob) (u : ID32) (ws : List Wnt) : Prop := ∀ w ∈ ws, (w.2.1 = u ∨ Told os w.2.1) ∧ goF os w.2.1 = none
theorem TK.nw {os : List Ob} {u : ID32} {ws : List Wnt} {x : Wnt} (h : TK os u ws) (a : x.2.1 = u ∨ Told os x.2.1) (b : ndB os x = false → goF os x.2.1 = none) : TK os u (ndW os ws x) := by
  unfold ndW; split
  · exact h
  · rename_i c
    split
    · exact h
    · intro w hw
      rcases List.mem_append.1 hw with q | q
      · exact h w q
      · rw [List.mem_singleton.1 q]; exact ⟨a, b (by simpa using c)⟩
theorem nd_none {os : List Ob} (hu : Uni os) {n : Nat} (h : n < 8) {o : Ob} (ho : o ∈ (md n).2.2) {k m : Int} {x : ID32} (hx : x = o.2.1) (hk : o.1 = k) (e : ndB os (k, x, m) = false) : goF os x = none := by
  subst hx
  cases g : goF os o.2.1 with
  | none => rfl
  | some q =>
    have e2 := go_is hu h ho g
    have t : ndB os (k, o.2.1, m) = true := decide_eq_true ⟨getE_hit g, by show (getO os o.2.1).1 = k; rw [getO_hit g, e2]; exact hk⟩
    rw [t] at e; cases e
theorem stp_P {P : List Wnt → Prop} {g : Pt → List Wnt → List Wnt × Bool} : ∀ (l : List Pt) (s : List Wnt × Bool), (∀ q ∈ l, ∀ ws, P ws → P (g q ws).1) → P s.1 → P (l.foldl (stp g) s).1
  | [], s, _, k => k
  | q :: l, s, h, k => by
    rw [List.foldl_cons]
    exact stp_P l _ (fun q hq => h q (List.mem_cons_of_mem _ hq)) (h q (List.mem_cons_self ..) s.1 k)
theorem tk_0 {os : List Ob} (hu : Uni os) {u : ID32} {n : Nat} (h : n < 8) {c : List UInt8} (hc : c ∈ mdCh n) (ht : Told os (lf c).1) {d : Nat} {ws : List Wnt} (k : TK os u ws) : TK os u (ptF os (d + 1) 0 (lf c) ws).1 := by
  rw [pt_0]
  exact k.nw (.inr ht) fun e => nd_none (x := (lf c).1) (k := 1) (m := (lf c).2) hu h (in_lo h hc) (by rw [lf_id, lo_id]) (lo_k c) e
theorem tk_1 {os : List Ob} (hu : Uni os) {u : ID32} {n : Nat} (h : n < 8) {g : List Pt} (hg : g ∈ grps (mdP n)) (ht : Told os (upt 1 g).1) {d : Nat} {lv : Int} (h0 : lv ≠ 0) {ws : List Wnt} (k : TK os u ws) : TK os u (ptF os (d + 2) lv (upt 1 g) ws).1 := by
  cases e : ndB os (2, (upt 1 g).1, 292) with
  | false =>
    rw [pt_m h0 e]
    exact k.nw (.inr ht) fun e => nd_none (x := (upt 1 g).1) (k := 2) (m := 292) hu h (in_n1 h hg) (by rw [upt_id, uob_id]) (uob_k 1 g) e
  | true =>
    have ez := up1_z hu h hg e
    have hin : uob 1 g ∈ os := by
      have e0 := nd_go e
      have e1 : goF os (uob 1 g).2.1 = some (getO os (upt 1 g).1) := by rw [uob_id, ← upt_id]; exact e0
      have e2 := go_is hu h (in_n1 h hg) e1
      exact e2 ▸ (goF_mem e1).1
    rw [pt_n h0 e rfl ez.symm rfl]
    refine stp_P _ _ (fun q hq ws kw => ?_) k
    obtain ⟨c, hc, rfl⟩ := List.mem_map.1 ((grps_len hg).2.2 q hq)
    exact tk_0 hu h hc (told_nd hin hq) kw
theorem tk_r {os : List Ob} (hu : Uni os) {u : ID32} {n : Nat} (h : n < 8) (hp : pth n ∈ os) {ws : List Wnt} (k : TK os u ws) : TK os u (ptF os 3 (-1) (md n).1 ws).1 := by
  have ht := told_rt hp
  rcases root_is h with ⟨c, er, eg⟩ | ⟨c, er, eg⟩
  · rw [er] at ht ⊢
    exact tk_1 hu h (by rw [eg]; exact List.mem_singleton.2 rfl) ht (by decide) k
  · rw [er] at ht ⊢
    have hg : upP 1 (mdP n) ∈ grps (upP 1 (mdP n)) := by rw [eg]; exact List.mem_singleton.2 rfl
    cases e : ndB os (2, (upt 2 (upP 1 (mdP n))).1, 292) with
    | false =>
      rw [pt_m (by decide) e]
      exact k.nw (.inr ht) fun e => nd_none (x := (upt 2 (upP 1 (mdP n))).1) (k := 2) (m := 292) hu h (in_n2 h c hg) (by rw [upt_id, uob_id]) (uob_k 2 _) e
    | true =>
      have ez := up2_z hu h c hg e
      have hin : uob 2 (upP 1 (mdP n)) ∈ os := by
        have e0 := nd_go e
        have e1 : goF os (uob 2 (upP 1 (mdP n))).2.1 = some (getO os (upt 2 (upP 1 (mdP n))).1) := by rw [uob_id, ← upt_id]; exact e0
        have e2 := go_is hu h (in_n2 h c hg) e1
        exact e2 ▸ (goF_mem e1).1
      rw [pt_n (by decide) e rfl ez.symm rfl]
      refine stp_P _ _ (fun q hq ws kw => ?_) k
      obtain ⟨v, hv, rfl⟩ := List.mem_map.1 hq
      exact tk_1 hu h hv (told_nd hin hq) (show (((2 : Nat) : Int) - 1) ≠ 0 by decide) kw
theorem pth_tk {os : List Ob} (hu : Uni os) (tb : ID32 → Bool) {u : ID32} : ∀ (f : Nat) (x : ID32) (s : FS), N8 x → (x = u ∨ Told os x) → TK os u s.ws → TK os u (pthF os tb f x s).1.ws
  | 0, x, s, _, _, h => h
  | f + 1, x, s, hx, ht, h => by
    obtain ⟨k, hk, rfl⟩ := hx
    have ls : ∀ (l : List ID32) (s : FS), (∀ r ∈ l, N8 r ∧ Told os r) → TK os u s.ws → TK os u (lsF (pthF os tb f) l s).1.ws := fun l => by
      induction l with
      | nil => exact fun s _ h => h
      | cons r l ih =>
        intro s hl h
        have hr := hl r (List.mem_cons_self ..)
        have a := pth_tk hu tb f r s hr.1 (.inr hr.2) h
        rw [lsF]; split
        · exact ih _ (fun q hq => hl q (List.mem_cons_of_mem _ hq)) a
        · exact a
    rw [pthF]
    split
    · exact h
    · split
      · exact h
      · split
        · rename_i c2
          obtain ⟨m, hm, e, hp⟩ := lk_uni hu c2
          rw [e, lk_yes hu hm hp]
          dsimp only
          have a := ls (md m).2.1 ⟨s.sn ++ [nm m], s.ps, s.ws, s.rs⟩ (fun r hr => by
            obtain ⟨j, hj, e2⟩ := rf_md hm hr
            exact ⟨⟨j, by omega, e2⟩, told_rf hp hr⟩) h
          unfold knF; split
          · exact tk_r hu hm hp a
          · exact a
        · exact h.nw ht fun e => nd_none (x := nm k) (k := 3) (m := 294) hu hk (pth_in hk).1 (by rw [pth_id]) (pth_k k) e
theorem fr_tk {os : List Ob} (hu : Uni os) (tb : ID32 → Bool) {f k : Nat} (hk : k < 8) : TK os (nm k) (pthF os tb f (nm k) fs0).1.ws := pth_tk hu tb f (nm k) fs0 ⟨k, hk, rfl⟩ (.inl rfl) fun w h => by cases h
/-! ### the search for a name in a text -/
theorem tld_0 {t x : List UInt8} : ¬ tldT t x 0 := fun ⟨p, h, _⟩ => absurd h (Nat.not_lt_zero p)
theorem tld_s {t x : List UInt8} {p : Nat} (h : p + 32 ≤ t.length) : tldT t x (p + 1) ↔ tldT t x p ∨ (t.drop p).take 32 = x := by
  constructor
  · rintro ⟨q, hq, h1, h2⟩
    rcases Nat.lt_or_ge q p with c | c
    · exact .inl ⟨q, c, h1, h2⟩
    · obtain rfl : q = p := by omega
      exact .inr h2
  · rintro (⟨q, hq, h1, h2⟩ | h2)
    · exact ⟨q, by omega, h1, h2⟩
    · exact ⟨p, by omega, h, h2⟩
def TldI (os : List Ob) (j : Nat) (w u : ID32) : Prop := w = u ∨ ∃ o ∈ os.take j, tldT o.2.2 w.1 o.2.2.length
theorem TldI.s {os : List Ob} {j i : Nat} {w u : ID32} {o : Ob} (h : os[j]? = some o) (hi : o.2.2.length < i + 32) (hj : i ≤ o.2.2.length) : TldI os (j + 1) w u ↔ TldI os j w u ∨ tldT o.2.2 w.1 i := by
  have e : tldT o.2.2 w.1 o.2.2.length ↔ tldT o.2.2 w.1 i := ⟨fun ⟨p, h1, h2, h3⟩ => ⟨p, by omega, h2, h3⟩, fun ⟨p, h1, h2, h3⟩ => ⟨p, by omega, h2, h3⟩⟩
  unfold TldI
  rw [List.take_add_one, h]
  constructor
  · rintro (q | ⟨a, ha, q⟩)
    · exact .inl (.inl q)
    · rcases List.mem_append.1 ha with r | r
      · exact .inl (.inr ⟨a, r, q⟩)
      · obtain rfl : a = o := by simpa using r
        exact .inr (e.1 q)
  · rintro ((q | ⟨a, ha, q⟩) | q)
    · exact .inl q
    · exact .inr ⟨a, List.mem_append_left _ ha, q⟩
    · exact .inr ⟨o, List.mem_append_right _ (by simp), e.2 q⟩
theorem TldI.end_ {os : List Ob} {j : Nat} {w u : ID32} (h : w = u ∨ Told os w) (hj : os.length ≤ j) : TldI os j w u := by
  unfold TldI
  rw [List.take_of_length_le hj]
  rcases h with h | ⟨o, ho, p, h1, h2⟩
  · exact .inl h
  · exact .inr ⟨o, ho, p, by omega, h1, h2⟩
theorem TldI.z {os : List Ob} {w u : ID32} : decide (w.1 = u.1) = true ↔ TldI os 0 w u := by
  constructor
  · exact fun h => .inl (Subtype.ext (of_decide_eq_true h))
  · rintro (h | ⟨o, h, _⟩)
    · rw [h]; exact decide_eq_true rfl
    · cases h
theorem tk_f {A : Prop} {t x : List UInt8} {p : Nat} (h : false = true ↔ (A ∨ tldT t x p)) (k : p + 32 ≤ t.length) : decide ((t.take (p + 32)).drop p = x) = true ↔ (A ∨ tldT t x (p + 1)) := by
  rw [tld_s k, decide_eq_true_eq, List.drop_take, Nat.add_sub_cancel_left]
  constructor
  · exact fun e => .inr (.inr e)
  · rintro (q | q | q)
    · exact absurd (h.2 (.inl q)) (by decide)
    · exact absurd (h.2 (.inr q)) (by decide)
    · exact q
theorem tk_t {A : Prop} {t x : List UInt8} {p : Nat} (h : true = true ↔ (A ∨ tldT t x p)) (k : p + 32 ≤ t.length) : true = true ↔ (A ∨ tldT t x (p + 1)) := by
  rw [tld_s k]
  refine ⟨fun _ => ?_, fun _ => rfl⟩
  rcases h.1 rfl with q | q
  · exact .inl q
  · exact .inr (.inl q)


end Cv
