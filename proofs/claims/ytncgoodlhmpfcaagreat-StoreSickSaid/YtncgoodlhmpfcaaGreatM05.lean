/-
  The walks: the plain law of trees.
-/
import Derived.Test.YtncgoodlhmpfcaaGreatB05
set_option linter.all false
set_option maxRecDepth 10000
namespace Cv
open Go Go.Proofs
/-! ## the statements' own functions over trees -/
structure Nd where
  dep : Nat
  n : List UInt8
  k : Int
  t : List UInt8
  filled : Bool
  first : Bool
  rise : Bool
instance : Inhabited Nd := ⟨⟨0, [], 0, [], false, false, false⟩⟩
theorem count_named (x : Tr) (m : List UInt8) : (x.named m).count = x.count := by rw [Tr.count_eq, Tr.count_eq]; rfl
inductive TAll (p : Tr → Prop) : Tr → Prop where
  | mk {x : Tr} (h : ∀ y ∈ x.ks, p y) (h2 : ∀ y ∈ x.ks, TAll p y) : TAll p x
theorem TAll.kid {p : Tr → Prop} {x y : Tr} (h : TAll p x) (hy : y ∈ x.ks) : p y ∧ TAll p y := by cases h with | mk h h2 => exact ⟨h y hy, h2 y hy⟩
theorem TAll.of {p : Tr → Prop} {x : Tr} (h : ∀ y ∈ x.ks, p y ∧ TAll p y) : TAll p x := .mk (fun y hy => (h y hy).1) (fun y hy => (h y hy).2)
def Sm (y : Tr) : Prop := y.n.length ≤ 20000 ∧ y.t.length ≤ 20000
/-! ### told -/
def risO (p : Option (List UInt8)) (m : List UInt8) : Bool := match p with | none => false | some q => bless q m
mutual
def toldT : Tr → List UInt8 → Nat → Bool → Bool → List Nd
  | .mk _ k t ks, nm, d, f, r => ⟨d, nm, k, t, decide (0 < ks.length), f, r⟩ :: toldL ks (d + 1) none
def toldL : List Tr → Nat → Option (List UInt8) → List Nd
  | [], _, _ => []
  | y :: ys, d, p => toldT y y.n d p.isNone (risO p y.n) ++ toldL ys d (some y.n)
end
theorem toldL_nil (d : Nat) (p : Option (List UInt8)) : toldL [] d p = [] := by unfold toldL; rfl
theorem toldL_cons (y : Tr) (ys : List Tr) (d : Nat) (p : Option (List UInt8)) : toldL (y :: ys) d p = toldT y y.n d p.isNone (risO p y.n) ++ toldL ys d (some y.n) := by rw [toldL.eq_def]
theorem toldT_eq (x : Tr) (nm : List UInt8) (d : Nat) (f r : Bool) : toldT x nm d f r = ⟨d, nm, x.k, x.t, decide (0 < x.ks.length), f, r⟩ :: toldL x.ks (d + 1) none := by cases x; rw [toldT]; rfl
def prv (ks : List Tr) (i : Nat) : Option (List UInt8) := if i = 0 then none else (ks[i - 1]?).map Tr.n
theorem prv_next {ks : List Tr} {i : Nat} {y : Tr} (h : ks[i]? = some y) : prv ks (i + 1) = some y.n := by simp [prv, h]
/-! ### check -/
def own0 (k : Int) (t : List UInt8) (filled : Bool) (d : Nat) : Int :=
  if k < 1 ∨ 4 < k then 6 else if (k ≠ 4 ∧ filled = true) ∨ (k = 4 ∧ t ≠ []) ∨ (k = 3 ∧ t = []) then 6 else if k = 3 ∧ (24 < t.length ∨ 0 ∈ t) then 6 else if 8192 < t.length ∨ 8 < d then 5 else 0
mutual
def chkT : Tr → Nat → Nat × Int
  | .mk _ k t ks, d => if own0 k t (decide (0 < ks.length)) d ≠ 0 then (0, own0 k t (decide (0 < ks.length)) d) else chkL ks (d + 1) none 1
def chkL : List Tr → Nat → Option (List UInt8) → Nat → Nat × Int
  | [], _, _, n => (n, 0)
  | y :: ys, d, p, n => if nameB y.n = false ∨ (∃ q, p = some q ∧ bless q y.n = false) then (0, 6) else if (chkT y d).2 ≠ 0 then (0, (chkT y d).2) else chkL ys d (some y.n) (n + (chkT y d).1)
end
theorem chkT_eq (x : Tr) (d : Nat) : chkT x d = if own0 x.k x.t (decide (0 < x.ks.length)) d ≠ 0 then (0, own0 x.k x.t (decide (0 < x.ks.length)) d) else chkL x.ks (d + 1) none 1 := by cases x; rw [chkT]; rfl
theorem chkL_drop {ks : List Tr} {i d n : Nat} {y : Tr} (h : ks[i]? = some y) : chkL (ks.drop i) d (prv ks i) n = if nameB y.n = false ∨ (∃ q, prv ks i = some q ∧ bless q y.n = false) then (0, 6) else if (chkT y d).2 ≠ 0 then (0, (chkT y d).2) else chkL (ks.drop (i + 1)) d (prv ks (i + 1)) (n + (chkT y d).1) := by
  have hi := (List.getElem?_eq_some_iff.1 h).1
  have e : ks.drop i = y :: ks.drop (i + 1) := by
    rw [List.drop_eq_getElem_cons hi]; congr 1; exact (List.getElem?_eq_some_iff.1 h).2
  rw [e, chkL, prv_next h]
def ndErr (z : Nd) : Int := if 1 < z.dep ∧ (nameB z.n = false ∨ (z.first = false ∧ z.rise = false)) then 6 else own0 z.k z.t z.filled z.dep
def errL : List Nd → Int
  | [] => 0
  | z :: l => if ndErr z ≠ 0 then ndErr z else errL l
theorem errL_append : ∀ a b : List Nd, errL (a ++ b) = if errL a ≠ 0 then errL a else errL b
  | [], b => by simp [errL]
  | z :: a, b => by
    rw [List.cons_append, errL, errL, errL_append a b]
    by_cases h : ndErr z ≠ 0
    · rw [if_pos h, if_pos h, if_pos h]
    · rw [if_neg h, if_neg h]
theorem chk_kids (ks : List Tr) (h : ∀ y ∈ ks, ∀ d nm f r, 2 ≤ d → ((nameB nm = true ∧ (f = true ∨ r = true)) → errL (toldT y nm d f r) = (chkT y d).2) ∧ ((chkT y d).2 = 0 → (chkT y d).1 = y.count)) : ∀ d p n, 2 ≤ d → errL (toldL ks d p) = (chkL ks d p n).2 ∧ ((chkL ks d p n).2 = 0 → (chkL ks d p n).1 = n + countL ks) := by
  induction ks with
  | nil => intro d p n _; simp [toldL_nil, chkL, errL, countL]
  | cons y ys ihy =>
    intro d p n hd
    rw [toldL_cons, chkL, errL_append]
    by_cases hb : nameB y.n = false ∨ (∃ q, p = some q ∧ bless q y.n = false)
    · rw [if_pos hb]
      have e : errL (toldT y y.n d p.isNone (risO p y.n)) = 6 := by
        rw [toldT_eq, errL]
        have : ndErr ⟨d, y.n, y.k, y.t, decide (0 < y.ks.length), p.isNone, (risO p y.n)⟩ = 6 := by
          unfold ndErr
          rw [if_pos]
          refine ⟨by show 1 < d; omega, ?_⟩
          rcases hb with hb | ⟨q, rfl, hb⟩
          · exact .inl hb
          · exact .inr ⟨R, hb⟩
        rw [this]; simp
      rw [e]; simp
    · rw [if_neg hb]
      have hb' : nameB y.n = true ∧ (p.isNone = true ∨ (risO p y.n) = true) := by
        refine ⟨?_, ?_⟩
        · cases hn : nameB y.n with
          | true => rfl
          | false => exact absurd (.inl hn) hb
        · cases p with
          | none => exact .inl rfl
          | some q =>
            right
            cases hq : bless q y.n with
            | true => exact hq
            | false => exact absurd (.inr ⟨q, rfl, hq⟩) hb
      obtain ⟨h1, h2⟩ := h y (by simp) d y.n p.isNone (risO p y.n) hd
      rw [h1 hb']
      obtain ⟨h3, h4⟩ := ihy (fun z hz => h z (by simp [hz])) d (some y.n) (n + (chkT y d).1) hd
      rw [h3]
      by_cases hc : (chkT y d).2 ≠ 0
      · rw [if_pos hc, if_pos hc]; exact ⟨rfl, fun q => absurd q hc⟩
      · rw [if_neg hc, if_neg hc]
        refine ⟨R, fun q => ?_⟩
        rw [h4 q, h2 (by simpa using hc), countL]; omega
theorem chk_all (x : Tr) : ∀ d nm f r, ((2 ≤ d → nameB nm = true ∧ (f = true ∨ r = true)) → 1 ≤ d → errL (toldT x nm d f r) = (chkT x d).2) ∧ ((chkT x d).2 = 0 → 1 ≤ d → (chkT x d).1 = x.count) := by
  have key : ∀ x : Tr, (∀ y ∈ x.ks, ∀ d nm f r, 2 ≤ d → ((nameB nm = true ∧ (f = true ∨ r = true)) → errL (toldT y nm d f r) = (chkT y d).2) ∧ ((chkT y d).2 = 0 → (chkT y d).1 = y.count)) → ∀ d nm f r, ((2 ≤ d → nameB nm = true ∧ (f = true ∨ r = true)) → 1 ≤ d → errL (toldT x nm d f r) = (chkT x d).2) ∧ ((chkT x d).2 = 0 → 1 ≤ d → (chkT x d).1 = x.count) := by
    intro x ih d nm f r
    rw [toldT_eq, chkT_eq, errL]
    have e : (2 ≤ d → nameB nm = true ∧ (f = true ∨ r = true)) → ndErr ⟨d, nm, x.k, x.t, decide (0 < x.ks.length), f, r⟩ = own0 x.k x.t (decide (0 < x.ks.length)) d := by
      intro h
      unfold ndErr
      rw [if_neg]
      rintro ⟨h1, h2⟩
      obtain ⟨h3, h4⟩ := h h1
      rcases h2 with h2 | ⟨h2, h5⟩
      · rw [h3] at h2; cases h2
      · rcases h4 with h4 | h4
        · simp only at h2; rw [h4] at h2; cases h2
        · simp only at h5; rw [h4] at h5; cases h5
    refine ⟨fun h hd => ?_, fun h hd => ?_⟩
    · rw [e h]
      by_cases hc : own0 x.k x.t (decide (0 < x.ks.length)) d ≠ 0
      · rw [if_pos hc, if_pos hc]
      · rw [if_neg hc, if_neg hc]
        exact (chk_kids x.ks ih (d + 1) none 1 (by omega)).1
    · by_cases hc : own0 x.k x.t (decide (0 < x.ks.length)) d ≠ 0
      · rw [if_pos hc] at h; exact absurd h hc
      · rw [if_neg hc] at h ⊢
        rw [(chk_kids x.ks ih (d + 1) none 1 (by omega)).2 h, Tr.count_eq]
  have kids : ∀ x : Tr, ∀ d nm f r, 2 ≤ d → ((nameB nm = true ∧ (f = true ∨ r = true)) → errL (toldT x nm d f r) = (chkT x d).2) ∧ ((chkT x d).2 = 0 → (chkT x d).1 = x.count) := by
    intro x
    refine Tr.ind (p := fun x => ∀ d nm f r, 2 ≤ d → ((nameB nm = true ∧ (f = true ∨ r = true)) → errL (toldT x nm d f r) = (chkT x d).2) ∧ ((chkT x d).2 = 0 → (chkT x d).1 = x.count)) (fun x ih d nm f r hd => ?_) x
    obtain ⟨h1, h2⟩ := key x ih d nm f r
    exact ⟨fun h => h1 (fun _ => h) (by omega), fun h => h2 h (by omega)⟩
  intro d nm f r
  exact key x (fun y _ => kids y) d nm f r
theorem own0_1 {k : Int} {t : List UInt8} {f : Bool} {d : Nat} (h : k < 1 ∨ 4 < k) : own0 k t f d = 6 := by unfold own0; rw [if_pos h]
theorem own0_2 {k : Int} {t : List UInt8} {f : Bool} {d : Nat} (h1 : ¬ (k < 1 ∨ 4 < k)) (h : (k ≠ 4 ∧ f = true) ∨ (k = 4 ∧ t ≠ []) ∨ (k = 3 ∧ t = [])) : own0 k t f d = 6 := by unfold own0; rw [if_neg h1, if_pos h]
theorem own0_3 {k : Int} {t : List UInt8} {f : Bool} {d : Nat} (h1 : ¬ (k < 1 ∨ 4 < k)) (h2 : ¬ ((k ≠ 4 ∧ f = true) ∨ (k = 4 ∧ t ≠ []) ∨ (k = 3 ∧ t = []))) (h : k = 3 ∧ (24 < t.length ∨ 0 ∈ t)) : own0 k t f d = 6 := by unfold own0; rw [if_neg h1, if_neg h2, if_pos h]
theorem own0_4 {k : Int} {t : List UInt8} {f : Bool} {d : Nat} (h1 : ¬ (k < 1 ∨ 4 < k)) (h2 : ¬ ((k ≠ 4 ∧ f = true) ∨ (k = 4 ∧ t ≠ []) ∨ (k = 3 ∧ t = []))) (h3 : ¬ (k = 3 ∧ (24 < t.length ∨ 0 ∈ t))) (h : 8192 < t.length ∨ 8 < d) : own0 k t f d = 5 := by unfold own0; rw [if_neg h1, if_neg h2, if_neg h3, if_pos h]
theorem own0_5 {k : Int} {t : List UInt8} {f : Bool} {d : Nat} (h1 : ¬ (k < 1 ∨ 4 < k)) (h2 : ¬ ((k ≠ 4 ∧ f = true) ∨ (k = 4 ∧ t ≠ []) ∨ (k = 3 ∧ t = []))) (h3 : ¬ (k = 3 ∧ (24 < t.length ∨ 0 ∈ t))) (h : ¬ (8192 < t.length ∨ 8 < d)) : own0 k t f d = 0 := by unfold own0; rw [if_neg h1, if_neg h2, if_neg h3, if_neg h]
theorem chk_bad {x : Tr} {d : Nat} {e : Int} (h : own0 x.k x.t (decide (0 < x.ks.length)) d = e) (he : e ≠ 0) : chkT x d = (0, e) := by rw [chkT_eq, h, if_pos he]
theorem chk_go {x : Tr} {d : Nat} (h : own0 x.k x.t (decide (0 < x.ks.length)) d = 0) : chkT x d = chkL x.ks (d + 1) none 1 := by rw [chkT_eq, h, if_neg (by simp)]
def ChkI (x : Tr) (d i n : Nat) : Prop := chkT x d = chkL (x.ks.drop i) (d + 1) (prv x.ks i) n
theorem ChkI.zero {x : Tr} {d : Nat} (h : own0 x.k x.t (decide (0 < x.ks.length)) d = 0) : ChkI x d 0 1 := by unfold ChkI; rw [chk_go h]; simp [prv]
theorem ChkI.bad {x y : Tr} {d i n : Nat} (h : ChkI x d i n) (hy : x.ks[i]? = some y) (hb : nameB y.n = false ∨ (0 < i ∧ bless (gd x.ks (i - 1)).n y.n = false)) : chkT x d = (0, 6) := by
  unfold ChkI at h
  rw [h, chkL_drop hy, if_pos]
  rcases hb with hb | ⟨hb, hb2⟩
  · exact .inl hb
  · refine .inr ⟨_, ?_, hb2⟩
    have hi := (List.getElem?_eq_some_iff.1 hy).1
    have e : x.ks[i - 1]? = some (gd x.ks (i - 1)) := y9 (by omega)
    unfold prv; rw [if_neg (by omega), e]; rfl
theorem ChkI.kid {x y : Tr} {d i n : Nat} (h : ChkI x d i n) (hy : x.ks[i]? = some y) (hb : ¬ (nameB y.n = false ∨ (0 < i ∧ bless (gd x.ks (i - 1)).n y.n = false))) : chkT x d = if (chkT y (d + 1)).2 ≠ 0 then (0, (chkT y (d + 1)).2) else chkL (x.ks.drop (i + 1)) (d + 1) (prv x.ks (i + 1)) (n + (chkT y (d + 1)).1) := by
  unfold ChkI at h
  rw [h, chkL_drop hy, if_neg]
  rintro (q | ⟨q, h1, h2⟩)
  · exact hb (.inl q)
  · unfold prv at h1
    by_cases h0 : i = 0
    · rw [if_pos h0] at h1; cases h1
    · have hi := (List.getElem?_eq_some_iff.1 hy).1
      have e : x.ks[i - 1]? = some (gd x.ks (i - 1)) := y9 (by omega)
      rw [if_neg h0, e] at h1
      injection h1 with h1
      subst h1
      exact hb (.inr ⟨by omega, h2⟩)
theorem ChkI.stop {x : Tr} {d i n : Nat} (h : ChkI x d i n) (hi : x.ks.length ≤ i) : chkT x d = (n, 0) := by
  unfold ChkI at h
  rw [h, List.drop_of_length_le hi, chkL]
theorem chk_le (x : Tr) (d : Nat) (hd : 1 ≤ d) : (chkT x d).1 ≤ x.count := by
  by_cases h : (chkT x d).2 = 0
  · exact Nat.le_of_eq ((chk_all x d [] true true).2 h hd)
  · rw [chkT_eq] at h ⊢
    by_cases hc : own0 x.k x.t (decide (0 < x.ks.length)) d ≠ 0
    · rw [if_pos hc]; exact Nat.zero_le _
    · rw [if_neg hc] at h ⊢
      have : ∀ ks d p n, (chkL ks d p n).2 ≠ 0 → (chkL ks d p n).1 = 0 := by
        intro ks
        induction ks with
        | nil => intro d p n h; simp [chkL] at h
        | cons y ys ihy =>
          intro d p n h
          rw [chkL] at h ⊢
          split
          · rfl
          · rename_i h3
            rw [if_neg h3] at h
            split
            · rfl
            · rename_i h4
              rw [if_neg h4] at h
              exact ihy _ _ _ h
      rw [this _ _ _ _ h]; exact Nat.zero_le _
/-! ### entries with their cells -/
instance : Inhabited ET := ⟨(default, none, 0, 0)⟩
theorem et_one {xs : List ET} : ∀ u ∈ (xs.map eT).flatten, u.oneCell' = true := by
  intro u hu
  obtain ⟨r, hr, hu⟩ := List.mem_flatten.1 hu
  obtain ⟨x, _, rfl⟩ := List.mem_map.1 hr
  simp only [eT, eRow, List.mem_cons, List.not_mem_nil, or_false] at hu
  rcases hu with rfl | rfl | rfl | rfl <;> rfl
def etsA (xs : List ET) : Asn := fun h => ∀ z ∈ xs, RT h z.1 (eT z)
theorem etsA_mono {xs : List ET} (y z : Hp) (H : etsA xs y) (l : Hp.le y z) : etsA xs z := fun q hq => (H q hq).mono l
theorem etsA_sub {xs ys : List ET} (h : ∀ y ∈ ys, y ∈ xs) (z : Hp) (H : etsA xs z) : etsA ys z := fun q hq => H q (h q hq)
theorem etsA_kids {xs : List ET} (z : Hp) (H : etsA xs z) : kidsA (xs.map (·.1)) (xs.map eT) z := ⟨by simp, fun i y r h1 h2 => by
  simp only [List.getElem?_map] at h1 h2
  cases hz : xs[i]? with
  | none => rw [hz] at h1; cases h1
  | some q =>
    rw [hz] at h1 h2
    simp only [Option.map_some, Option.some.injEq] at h1 h2
    subst h1; subst h2
    exact H q (List.mem_of_getElem? hz)⟩
def cfN (x y : ET) : Int := cmpB x.1.n y.1.n
theorem cfN_cmp : Cmp cfN where
  anti x y := cmpB_neg _ _
  trans x y z h1 h2 := by
    unfold cfN at *
    by_cases e1 : cmpB x.1.n y.1.n = 0
    · rw [cmpB_eq e1] at *; exact ⟨h2, fun e => ⟨cmpB_self _, e⟩⟩
    · by_cases e2 : cmpB y.1.n z.1.n = 0
      · rw [← cmpB_eq e2] at *; exact ⟨h1, fun e => absurd e e1⟩
      · have := cmpB_trans (a := x.1.n) (b := y.1.n) (c := z.1.n) (by omega) (by omega)
        exact ⟨by omega, fun e => by omega⟩
def ofT (ys : List ET) : Tr := .mk [] 4 [] (ys.map (·.1))
theorem rt_leaf {h : Hp} {n : List UInt8} {k : Int} {t : List UInt8} : RT h (.mk n k t []) [S n, .int .i64 k, S t, .slice none 0 0] := by
  have := RT.mk (h := h) (x := .mk n k t []) (a := none) (len := 0) (cap := 0) (rows := []) rsl_nil rfl (fun i y r h1 h2 => by simp [Tr.ks] at h1)
  exact this
theorem of_one {z : ET} {ys : List ET} (hk : Kp cfN [z] ys) : ys = [z] := by
  match ys, hk.sm.1 with
  | [y], _ => have := hk.sm.2 y (by simp); simp at this; rw [this]
def chkE (x : Tr) : Int := if (chkT x 1).2 = 0 ∧ 64 < (chkT x 1).1 then 5 else (chkT x 1).2
theorem tall_leaf {p : Tr → Prop} {n : List UInt8} {k : Int} {t : List UInt8} : TAll p (.mk n k t []) := .of (fun y hy => by cases hy)

end Cv
