/-
  The walks: the plain law of comparing trees.
-/
import Derived.Test.YtdajpfbgikgkeaaM05
import Derived.Test.YtdajpfbgikgkeaaProg
import Derived.KernelRfl
set_option linter.unusedVariables false
set_option linter.unusedSimpArgs false
set_option linter.unusedSectionVars false
set_option maxRecDepth 10000
namespace Cv
open Go Go.Proofs
/-! ## the order of trees -/
def orF : List Int → Int
  | [] => 0
  | x :: xs => if x ≠ 0 then x else orF xs
def cmpI (x y : Int) : Int := if x < y then -1 else if y < x then 1 else 0
theorem orF_drop {xs : List Int} {k : Nat} (h : k < xs.length) : orF (xs.drop k) = if gd xs k ≠ 0 then gd xs k else orF (xs.drop (k + 1)) := by
  rw [List.drop_eq_getElem_cons h]
  simp [orF, gd, h]
def lexI (c d : Int) : Int := if c ≠ 0 then c else d
theorem or2 (c d : Int) : orF [c, d] = lexI c d := by
  unfold lexI; simp only [orF]
  by_cases h : c = 0
  · by_cases h2 : d = 0 <;> simp [h, h2]
  · simp [h]
mutual
def compT : Tr → Tr → Int
  | .mk _ k t ks, b => lexI (lexI (cmpI k b.k) (cmpB t b.t)) (compL ks b.ks)
def compL : List Tr → List Tr → Int
  | [], [] => 0
  | [], _ :: _ => -1
  | _ :: _, [] => 1
  | x :: xs, y :: ys => lexI (lexI (cmpB x.n y.n) (compT x y)) (compL xs ys)
end
theorem compT_eq (a b : Tr) : compT a b = lexI (lexI (cmpI a.k b.k) (cmpB a.t b.t)) (compL a.ks b.ks) := by cases a; rw [compT]; rfl
theorem compL_nil : compL [] [] = 0 := by unfold compL; rfl
theorem compL_nc (y : Tr) (ys : List Tr) : compL [] (y :: ys) = -1 := by unfold compL; rfl
theorem compL_cn (x : Tr) (xs : List Tr) : compL (x :: xs) [] = 1 := by unfold compL; rfl
theorem compL_cc (x y : Tr) (xs ys : List Tr) : compL (x :: xs) (y :: ys) = lexI (lexI (cmpB x.n y.n) (compT x y)) (compL xs ys) := by rw [compL.eq_def]
theorem compL_step {xs ys : List Tr} {i : Nat} {x y : Tr} (hx : xs[i]? = some x) (hy : ys[i]? = some y) : compL (xs.drop i) (ys.drop i) = lexI (lexI (cmpB x.n y.n) (compT x y)) (compL (xs.drop (i + 1)) (ys.drop (i + 1))) := by
  have h1 := (List.getElem?_eq_some_iff.1 hx).1
  have h2 := (List.getElem?_eq_some_iff.1 hy).1
  have e1 : xs.drop i = x :: xs.drop (i + 1) := by
    rw [List.drop_eq_getElem_cons h1]; congr 1; exact (List.getElem?_eq_some_iff.1 hx).2
  have e2 : ys.drop i = y :: ys.drop (i + 1) := by
    rw [List.drop_eq_getElem_cons h2]; congr 1; exact (List.getElem?_eq_some_iff.1 hy).2
  rw [e1, e2, compL_cc]
theorem compL_long {xs ys : List Tr} {i : Nat} (hx : i < xs.length) (hy : ys.length ≤ i) : compL (xs.drop i) (ys.drop i) = 1 := by
  rw [List.drop_eq_getElem_cons hx, List.drop_of_length_le hy, compL_cn]
theorem compL_end {xs ys : List Tr} {i : Nat} (hx : xs.length ≤ i) : compL (xs.drop i) (ys.drop i) = if i < ys.length then -1 else 0 := by
  rw [List.drop_of_length_le hx]
  by_cases h : i < ys.length
  · rw [if_pos h, List.drop_eq_getElem_cons h, compL_nc]
  · rw [if_neg h, List.drop_of_length_le (by omega), compL_nil]
/-! ### the laws -/
theorem cmpI_neg (a b : Int) : cmpI b a = - cmpI a b := by unfold cmpI; split <;> split <;> (try split) <;> omega
theorem lexI_neg (c d : Int) : lexI (-c) (-d) = - lexI c d := by unfold lexI; split <;> split <;> omega
theorem lexI_vals {c d : Int} (hc : c = -1 ∨ c = 0 ∨ c = 1) (hd : d = -1 ∨ d = 0 ∨ d = 1) : lexI c d = -1 ∨ lexI c d = 0 ∨ lexI c d = 1 := by unfold lexI; split <;> omega
theorem cmpI_vals (a b : Int) : cmpI a b = -1 ∨ cmpI a b = 0 ∨ cmpI a b = 1 := by unfold cmpI; split <;> (try split) <;> omega
theorem compL_neg (xs : List Tr) (h : ∀ x ∈ xs, ∀ y, compT y x = - compT x y) : ∀ ys, compL ys xs = - compL xs ys := by
  induction xs with
  | nil => intro ys; cases ys with
    | nil => rw [compL_nil]; rfl
    | cons y ys => rw [compL_cn, compL_nc]; rfl
  | cons x xs ih => intro ys; cases ys with
    | nil => rw [compL_cn, compL_nc]
    | cons y ys => rw [compL_cc, compL_cc, ih (fun z hz => h z (by simp [hz])), h x (by simp), cmpB_neg x.n y.n, lexI_neg, lexI_neg]
theorem compT_neg (x : Tr) : ∀ y, compT y x = - compT x y := by
  refine Tr.ind (p := fun x => ∀ y, compT y x = - compT x y) (fun x ih y => ?_) x
  rw [compT_eq, compT_eq, compL_neg x.ks ih, cmpI_neg x.k y.k, cmpB_neg x.t y.t, lexI_neg, lexI_neg]
theorem compL_vals (xs : List Tr) (h : ∀ x ∈ xs, ∀ y, compT x y = -1 ∨ compT x y = 0 ∨ compT x y = 1) : ∀ ys, compL xs ys = -1 ∨ compL xs ys = 0 ∨ compL xs ys = 1 := by
  induction xs with
  | nil => intro ys; cases ys with
    | nil => rw [compL_nil]; simp
    | cons y ys => rw [compL_nc]; simp
  | cons x xs ih => intro ys; cases ys with
    | nil => rw [compL_cn]; simp
    | cons y ys => rw [compL_cc]; exact lexI_vals (lexI_vals (cmpB_vals _ _) (h x (by simp) y)) (ih (fun z hz => h z (by simp [hz])) ys)
theorem compT_vals (x : Tr) : ∀ y, compT x y = -1 ∨ compT x y = 0 ∨ compT x y = 1 := by
  refine Tr.ind (p := fun x => ∀ y, compT x y = -1 ∨ compT x y = 0 ∨ compT x y = 1) (fun x ih y => ?_) x
  rw [compT_eq]
  exact lexI_vals (lexI_vals (cmpI_vals _ _) (cmpB_vals _ _)) (compL_vals x.ks ih _)
def TrI (a b c : Int) : Prop := a ≤ 0 → b ≤ 0 → c ≤ 0 ∧ (c = 0 → a = 0 ∧ b = 0)
theorem lexI_z {c d : Int} (h : c = 0) : lexI c d = d := by unfold lexI; rw [if_neg (by simpa using h)]
theorem lexI_nz {c d : Int} (h : ¬ c = 0) : lexI c d = c := by unfold lexI; rw [if_pos h]
theorem lexI_trans {a b c a' b' c' : Int} (h : TrI a b c) (h' : a = 0 → b = 0 → TrI a' b' c') : TrI (lexI a a') (lexI b b') (lexI c c') := by
  unfold TrI at *
  intro h1 h2
  by_cases ea : a = 0
  · rw [lexI_z ea] at h1 ⊢
    by_cases eb : b = 0
    · rw [lexI_z eb] at h2 ⊢
      have t := h' ea eb h1 h2
      have t2 := h (by omega) (by omega)
      by_cases ec : c = 0
      · rw [lexI_z ec]; exact t
      · rw [lexI_nz ec]; omega
    · rw [lexI_nz eb] at h2 ⊢
      have t2 := h (by omega) h2
      have ec : ¬ c = 0 := fun e => eb (t2.2 e).2
      rw [lexI_nz ec]; omega
  · rw [lexI_nz ea] at h1 ⊢
    have hb : b ≤ 0 := by
      by_cases eb : b = 0
      · omega
      · rw [lexI_nz eb] at h2; exact h2
    have t2 := h h1 hb
    have ec : ¬ c = 0 := fun e => ea (t2.2 e).1
    rw [lexI_nz ec]; omega
theorem cmpI_trans (a b c : Int) : TrI (cmpI a b) (cmpI b c) (cmpI a c) := by unfold TrI cmpI; split <;> split <;> split <;> (try split) <;> (try split) <;> (try split) <;> omega
theorem cmpB_trI (a b c : List UInt8) : TrI (cmpB a b) (cmpB b c) (cmpB a c) := fun h1 h2 => by
  by_cases e1 : cmpB a b = 0
  · rw [cmpB_eq e1] at *; exact ⟨h2, fun e => ⟨cmpB_self _, e⟩⟩
  · by_cases e2 : cmpB b c = 0
    · rw [← cmpB_eq e2] at *; exact ⟨h1, fun e => absurd e e1⟩
    · have := cmpB_trans (a := a) (b := b) (c := c) (by omega) (by omega)
      exact ⟨by omega, fun e => by omega⟩
theorem compL_trans (xs : List Tr) (h : ∀ x ∈ xs, ∀ y z, TrI (compT x y) (compT y z) (compT x z)) : ∀ ys zs, TrI (compL xs ys) (compL ys zs) (compL xs zs) := by
  induction xs with
  | nil =>
    intro ys zs
    cases ys with
    | nil => cases zs with
      | nil => rw [compL_nil]; exact fun _ _ => ⟨by omega, fun _ => ⟨rfl, rfl⟩⟩
      | cons z zs => rw [compL_nil, compL_nc]; exact fun _ _ => ⟨by omega, fun e => by omega⟩
    | cons y ys => cases zs with
      | nil => rw [compL_nc, compL_cn]; exact fun _ h => by omega
      | cons z zs => rw [compL_nc, compL_nc]; exact fun _ _ => ⟨by omega, fun e => by omega⟩
  | cons x xs ih =>
    intro ys zs
    cases ys with
    | nil => rw [compL_cn]; exact fun h => by omega
    | cons y ys => cases zs with
      | nil => rw [compL_cn y]; exact fun _ h => by omega
      | cons z zs => rw [compL_cc, compL_cc, compL_cc]; exact lexI_trans (lexI_trans (cmpB_trI _ _ _) (fun _ _ => h x (by simp) y z)) (fun _ _ => ih (fun q hq => h q (by simp [hq])) ys zs)
theorem compT_trans (x : Tr) : ∀ y z, TrI (compT x y) (compT y z) (compT x z) := by
  refine Tr.ind (p := fun x => ∀ y z, TrI (compT x y) (compT y z) (compT x z)) (fun x ih y z => ?_) x
  rw [compT_eq, compT_eq, compT_eq]
  exact lexI_trans (lexI_trans (cmpI_trans _ _ _) (fun _ _ => cmpB_trI _ _ _)) (fun _ _ => compL_trans x.ks ih _ _)
/-! ### 0 just of the same -/
theorem lexI_zero {c d : Int} : lexI c d = 0 ↔ c = 0 ∧ d = 0 := by unfold lexI; split <;> omega
theorem cmpI_zero {a b : Int} : cmpI a b = 0 ↔ a = b := by unfold cmpI; split <;> (try split) <;> omega
theorem cmpB_zero {a b : List UInt8} : cmpB a b = 0 ↔ a = b := ⟨cmpB_eq, fun e => by rw [e]; exact cmpB_self b⟩
theorem compL_zero (xs : List Tr) (h : ∀ x ∈ xs, ∀ y, compT x y = 0 ↔ x.k = y.k ∧ x.t = y.t ∧ x.ks = y.ks) : ∀ ys, compL xs ys = 0 ↔ xs = ys := by
  induction xs with
  | nil => intro ys; cases ys with
    | nil => simp [compL_nil]
    | cons y ys => simp [compL_nc]
  | cons x xs ih => intro ys; cases ys with
    | nil => simp [compL_cn]
    | cons y ys =>
      rw [compL_cc, lexI_zero, lexI_zero, cmpB_zero, h x (by simp), ih (fun z hz => h z (by simp [hz]))]
      constructor
      · rintro ⟨⟨h1, h2, h3, h4⟩, h5⟩
        rw [h5, x.eta, h1, h2, h3, h4, ← y.eta]
      · intro e
        injection e with e1 e2
        subst e1; subst e2
        exact ⟨⟨rfl, rfl, rfl, rfl⟩, rfl⟩
theorem compT_zero (x : Tr) : ∀ y, compT x y = 0 ↔ x.k = y.k ∧ x.t = y.t ∧ x.ks = y.ks := by
  refine Tr.ind (p := fun x => ∀ y, compT x y = 0 ↔ x.k = y.k ∧ x.t = y.t ∧ x.ks = y.ks) (fun x ih y => ?_) x
  rw [compT_eq, lexI_zero, lexI_zero, cmpI_zero, cmpB_zero, compL_zero x.ks ih, and_assoc]
/-- what is told says all -/
def Below1 (d : Nat) (r : List (Nat × List UInt8 × Int × List UInt8)) : Prop := ∀ z, r.head? = some z → z.1 < d
theorem told_inj_L (n : Nat) : ∀ (ks ks' : List Tr) (d : Nat) (p p' : Option (List UInt8)) (r r' : List (Nat × List UInt8 × Int × List UInt8)), countL ks ≤ n → Below1 d r → Below1 d r' →
    (toldL ks d p).map ndKey ++ r = (toldL ks' d p').map ndKey ++ r' → ks = ks' ∧ r = r' := by
  induction n with
  | zero =>
    intro ks ks' d p p' r r' hn hr hr' e
    have : ks = [] := by
      cases ks with
      | nil => rfl
      | cons y ys => have := count_pos y; simp [countL] at hn; omega
    subst this
    cases ks' with
    | nil => rw [toldL_nil] at e; exact ⟨rfl, by simpa [toldL_nil] using e⟩
    | cons y ys =>
      rw [toldL_nil, toldL_cons, toldT_eq] at e
      simp only [List.map_nil, List.nil_append, List.cons_append, List.map_cons] at e
      exact absurd (hr _ (by rw [e]; rfl)) (by simp)
  | succ n ih =>
    intro ks ks' d p p' r r' hn hr hr' e
    cases ks with
    | nil =>
      cases ks' with
      | nil => rw [toldL_nil] at e; exact ⟨rfl, by simpa [toldL_nil] using e⟩
      | cons y ys =>
        rw [toldL_nil, toldL_cons, toldT_eq] at e
        simp only [List.map_nil, List.nil_append, List.cons_append, List.map_cons] at e
        exact absurd (hr _ (by rw [e]; rfl)) (by simp)
    | cons x xs =>
      cases ks' with
      | nil =>
        rw [toldL_nil, toldL_cons, toldT_eq] at e
        simp only [List.map_nil, List.nil_append, List.cons_append, List.map_cons] at e
        exact absurd (hr' _ (by rw [← e]; rfl)) (by simp)
      | cons y ys =>
        rw [toldL_cons, toldL_cons, toldT_eq, toldT_eq] at e
        simp only [List.cons_append, List.map_cons, List.map_append, List.append_assoc, List.cons.injEq, ndKey, Prod.mk.injEq] at e
        obtain ⟨⟨_, e1, e2, e3⟩, e4⟩ := e
        have low : ∀ (zs : List Tr) (q : Option (List UInt8)) (s : List (Nat × List UInt8 × Int × List UInt8)), Below1 d s → Below1 (d + 1) ((toldL zs d q).map ndKey ++ s) := by
          intro zs q s hs z hz
          cases zs with
          | nil => rw [toldL_nil] at hz; exact Nat.lt_succ_of_lt (hs z (by simpa using hz))
          | cons w ws =>
            rw [toldL_cons, toldT_eq] at hz
            simp only [List.cons_append, List.map_cons, List.head?_cons, Option.some.injEq] at hz
            subst hz; simp [ndKey]
        have hc := x.count_eq
        simp only [countL] at hn
        obtain ⟨h1, h2⟩ := ih x.ks y.ks (d + 1) none none _ _ (by omega) (low xs _ r hr) (low ys _ r' hr') e4
        obtain ⟨h3, h4⟩ := ih xs ys d _ _ r r' (by have := count_pos x; omega) hr hr' h2
        refine ⟨?_, h4⟩
        rw [h3, x.eta, e1, e2, e3, h1, ← y.eta]
theorem told_same (x y : Tr) : (toldT x [] 1 true true).map ndKey = (toldT y [] 1 true true).map ndKey ↔ compT x y = 0 := by
  rw [compT_zero, toldT_eq, toldT_eq]
  simp only [List.map_cons, List.cons.injEq, ndKey, Prod.mk.injEq]
  constructor
  · rintro ⟨⟨_, _, h1, h2⟩, h3⟩
    have := told_inj_L (countL x.ks) x.ks y.ks 2 none none [] [] (Nat.le_refl _) (fun z hz => by cases hz) (fun z hz => by cases hz) (by simpa [ndKey] using h3)
    exact ⟨h1, h2, this.1⟩
  · rintro ⟨h1, h2, h3⟩
    exact ⟨⟨trivial, trivial, h1, h2⟩, by rw [h3]⟩
theorem compT_self (x : Tr) : compT x x = 0 := (compT_zero x x).2 ⟨rfl, rfl, rfl⟩
theorem count_mem : ∀ {ks : List Tr} {y : Tr}, y ∈ ks → y.count ≤ countL ks
  | x :: xs, y, h => by
    simp only [countL]
    rcases List.mem_cons.1 h with rfl | h
    · omega
    · have := count_mem h; omega
/-! ### signs of one byte -/
theorem enc_ascii {r : Nat} {l : List UInt8} (hr : r < 128) (h : EncOf r l) : l = [UInt8.ofNat r] := by
  have hv : Utf8.valid (r : Int) = true := by simp [Utf8.valid]; omega
  have e : Utf8.encode (r : Int) = ⟨#[UInt8.ofNat r]⟩ := by
    unfold Utf8.encode
    rw [hv]
    simp only [if_true, Int.toNat_natCast]
    rw [if_pos (by omega)]
  have h2 : ByteArray.mk l.toArray = ⟨#[UInt8.ofNat r]⟩ := h.trans e
  have h3 : (ByteArray.mk l.toArray).data.toList = (ByteArray.mk #[UInt8.ofNat r]).data.toList := by rw [h2]
  exact h3
/-- an entry of TreeOf -/
def Sh (j : Nat) (z : ET) : Prop := ∃ m, m.length ≤ 10 ∧ z = (.mk m 1 [UInt8.ofNat (97 + j)] [], none, 0, 0)
theorem Sh.rt {h : Hp} {j : Nat} {z : ET} (hs : Sh j z) : RT h z.1 (eT z) := by obtain ⟨m, _, rfl⟩ := hs; exact rt_leaf
@[reducible] def shE (n : List UInt8) (i : Nat) : ET := (.mk (n.take 10) 1 [UInt8.ofNat (97 + i)] [], none, 0, 0)
theorem Sh.mk (n : List UInt8) (i : Nat) : Sh i (shE n i) := ⟨n.take 10, by rw [List.length_take]; omega, rfl⟩
def ShL (acc : List ET) : Prop := ∀ j z, acc[j]? = some z → Sh j z
theorem ShL.nil : ShL [] := fun j z h => by simp at h
theorem ShL.snoc {acc : List ET} {z : ET} (h : ShL acc) (hz : Sh acc.length z) : ShL (acc ++ [z]) := fun j y hy => by
  by_cases hj : j < acc.length
  · rw [List.getElem?_append_left hj] at hy; exact h j y hy
  · rw [List.getElem?_append_right (by omega)] at hy
    have : j - acc.length = 0 := by
      have := (List.getElem?_eq_some_iff.1 hy).1
      simp at this; omega
    rw [this] at hy
    simp at hy
    subst hy
    rwa [show j = acc.length by omega]
theorem ShL.ets {acc : List ET} (h : ShL acc) (z : Hp) : etsA acc z := fun q hq => by
  obtain ⟨j, hj, rfl⟩ := List.getElem_of_mem hq
  exact (h j _ (List.getElem?_eq_getElem hj)).rt
def tagE (z : ET) : Nat := (z.1.t.getD 0 0).toNat
theorem sh_tag {j : Nat} {z : ET} (h : Sh j z) (hj : j < 100) : tagE z = 97 + j := by
  obtain ⟨m, _, rfl⟩ := h
  simp [tagE, Tr.t]; omega
theorem sh_rise {acc : List ET} (h : ShL acc) (hl : acc.length ≤ 8) : ∀ p q, p < q → q < acc.length → tagE (gd acc p) < tagE (gd acc q) := fun p q h1 h2 => by
  rw [sh_tag (h p _ (gd_get (by omega))) (by omega), sh_tag (h q _ (gd_get h2)) (by omega)]; omega
theorem sh_text {acc : List ET} (h : ShL acc) {y : ET} (hy : y ∈ acc) : ∃ c : UInt8, y.1.t = [c] ∧ tagE y = c.toNat := by
  obtain ⟨j, hj, rfl⟩ := List.getElem_of_mem hy
  obtain ⟨m, _, e⟩ := h j _ (List.getElem?_eq_getElem hj)
  rw [e]
  exact ⟨_, rfl, rfl⟩
/-- two neighbours that are sorted -/
theorem sh_pair {acc : List ET} (h : ShL acc) {a b : ET} (ha : a ∈ acc) (hb : b ∈ acc) (hR : Rt cfN tagE a b) : (bless a.1.n b.1.n || decide (a.1.n = b.1.n)) = true ∧ (a.1.n = b.1.n → bless a.1.t b.1.t = true) := by
  obtain ⟨c, h1, h2⟩ := sh_text h ha
  obtain ⟨d, h3, h4⟩ := sh_text h hb
  have key : c.toNat < d.toNat → bless [c] [d] = true := fun hcd => by
    rw [bless_iff, cmpB_lt, List.cons_lt_cons_iff]
    exact .inl hcd
  rcases hR with hR | ⟨hR, ht⟩
  · refine ⟨by rw [bless_iff.2 hR]; rfl, fun e => ?_⟩
    unfold cfN at hR
    rw [e, cmpB_self] at hR; omega
  · refine ⟨by rw [cmpB_eq hR]; simp, fun _ => ?_⟩
    rw [h1, h3]; exact key (by omega)
theorem i32_wrap {j : Int} (h : 0 ≤ j ∧ j ≤ 200) : IntKind.i32.wrap j = j := by rw [IntKind.wrap_i32]; omega
theorem rows4_set {rws : List (List Value)} {n q : Nat} {a b c d : Value} (h : ∀ j, j < n → ∃ v0 v1 v2 v3, rws[j]? = some [v0, v1, v2, v3]) : ∀ j, j < n → ∃ v0 v1 v2 v3, (rws.set q [a, b, c, d])[j]? = some [v0, v1, v2, v3] := fun j hj => by
  obtain ⟨v0, v1, v2, v3, e⟩ := h j hj
  have hl := (List.getElem?_eq_some_iff.1 e).1
  rw [List.getElem?_set]
  by_cases hq : q = j
  · subst hq; rw [if_pos rfl, if_pos hl]; exact ⟨_, _, _, _, rfl⟩
  · rw [if_neg hq]; exact ⟨_, _, _, _, e⟩
/-! ### TreeWide -/
def nmW (i : Nat) : List UInt8 := [UInt8.ofNat (97 + i / 26), UInt8.ofNat (97 + i % 26)]
@[reducible] def wE (i : Nat) : ET := (.mk (nmW i) 2 [] [], none, 0, 0)
def wideL (n : Nat) : List ET := (List.range n).map wE
theorem wideL_succ (n : Nat) : wideL (n + 1) = wideL n ++ [wE n] := by unfold wideL; rw [List.range_succ, List.map_append]; rfl
theorem wideL_len (n : Nat) : (wideL n).length = n := by simp [wideL]
theorem nm_rise : ∀ q, q < 100 → ∀ p, p < q → ¬ cmpB (nmW q) (nmW p) < 0 := by decide +kernel
theorem wideL_gd {n i : Nat} (h : i < n) : gd (wideL n) i = wE i := by
  have e : (wideL n)[i]? = some (wE i) := by unfold wideL; rw [List.getElem?_map, List.getElem?_range h]; rfl
  have := gd_get (l := wideL n) (i := i) (by rw [wideL_len]; exact h)
  rw [this] at e
  exact Option.some.inj e
theorem wideL_srt {n : Nat} (h : n ≤ 100) : Srt cfN (wideL n) := fun p q h1 h2 => by
  rw [wideL_len] at h2
  rw [wideL_gd (show p < n by omega), wideL_gd h2]
  exact nm_rise q (by omega) p h1
theorem wideL_ets (n : Nat) (z : Hp) : etsA (wideL n) z := fun q hq => by
  obtain ⟨i, _, rfl⟩ := List.mem_map.1 hq
  exact rt_leaf
theorem wide_chk : ∀ n, n < 101 → chkE (ofT (wideL n)) = if n < 64 then 0 else 5 := by decide +kernel
theorem wide_cnt : ∀ n, n < 101 → (ofT (wideL n)).count ≤ 200 := by decide +kernel
theorem wide_sm {n : Nat} (hn : n ≤ 100) : TAll Sm (ofT (wideL n)) := smT _ (fun y hy => by
  obtain ⟨i, _, rfl⟩ := List.mem_map.1 hy
  exact ⟨⟨(show (nmW i).length ≤ 20000 by simp [nmW]), (show ([] : List UInt8).length ≤ 20000 by decide)⟩, tall_leaf⟩)
def deepT : Nat → Tr
  | 0 => .mk [] 1 [] []
  | i + 1 => .mk [] 4 [] [(deepT i).named [100]]
theorem deep_chk : ∀ n, n < 101 → chkE (deepT (n - 1)) = if n ≤ 8 then 0 else 5 := by decide +kernel
theorem deep_cnt : ∀ n, n < 101 → (deepT n).count ≤ 200 := by decide +kernel
theorem deep_t (n : Nat) : (deepT n).t = [] := by cases n <;> rfl
theorem deep_sm : ∀ n, TAll Sm (deepT n)
  | 0 => tall_leaf
  | n + 1 => .of (fun y hy => by
    simp only [deepT, Tr.ks, List.mem_singleton] at hy
    subst hy
    refine ⟨⟨(show ([100] : List UInt8).length ≤ 20000 by decide), by show ((deepT n).t).length ≤ 20000; rw [deep_t]; decide⟩, .of (fun z hz => (deep_sm n).kid hz)⟩)
def longT (n : Nat) : Tr := .mk [] 1 (List.replicate n 0) []
theorem long_chk (n : Nat) : chkE (longT n) = if 8192 < n then 5 else 0 := by
  have e : chkT (longT n) 1 = if 8192 < n then (0, 5) else (1, 0) := by
    rw [chkT_eq]
    have ho : own0 (longT n).k (longT n).t (decide (0 < (longT n).ks.length)) 1 = if 8192 < n then 5 else 0 := by
      unfold own0 longT
      simp only [Tr.k, Tr.t, Tr.ks, List.length_replicate]
      simp
    rw [ho]
    by_cases h : 8192 < n
    · simp [h]
    · simp [h, longT, Tr.ks, chkL]
  unfold chkE
  rw [e]
  by_cases h : 8192 < n <;> simp [h]
theorem long_cnt (n : Nat) : (longT n).count = 1 := by rw [Tr.count_eq]; simp [longT, Tr.ks, countL]
def nmeL (n : Nat) : List ET := [(.mk (110 :: List.replicate n 97) 1 [] [], none, 0, 0)]
theorem nme_chk : ∀ n, n < 101 → chkE (ofT (nmeL n)) = if n + 1 ≤ 24 then 0 else 6 := by decide +kernel
theorem nme_cnt (n : Nat) : (ofT (nmeL n)).count = 2 := by
  rw [Tr.count_eq]
  simp [ofT, Tr.ks, nmeL, countL, Tr.count]
theorem nme_sm {n : Nat} (hn : n ≤ 100) : TAll Sm (ofT (nmeL n)) := smT _ (fun y hy => by
  simp only [nmeL, List.mem_singleton] at hy
  subst hy
  exact ⟨⟨(show (110 :: List.replicate n 97 : List UInt8).length ≤ 20000 by simp; omega), (show ([] : List UInt8).length ≤ 20000 by decide)⟩, tall_leaf⟩)
/-! ### letters -/
def letF (s : List UInt8) : List UInt8 := 110 :: (s.take 10).map (fun c => UInt8.ofNat (97 + c.toNat % 26))
theorem letF_len (s : List UInt8) : (letF s).length ≤ 11 := by simp [letF]; omega
theorem u8_let (c : UInt8) : IntKind.u8.wrap (97 + (c.toNat : Int).tmod 26) = ((97 + c.toNat % 26 : Nat) : Int) := by
  have h := c.toNat_lt
  rw [Int.tmod_eq_emod_of_nonneg (by omega)]
  have e : (97 : Int) + (c.toNat : Int) % 26 = ((97 + c.toNat % 26 : Nat) : Int) := by omega
  rw [e]
  unfold IntKind.wrap
  simp only [IntKind.bits, IntKind.signed]
  simp
  omega
theorem letF_step {s : List UInt8} {i : Nat} {c : UInt8} (h : s[i]? = some c) : (110 :: (s.take i).map (fun c => UInt8.ofNat (97 + c.toNat % 26)) ++ [UInt8.ofNat (97 + c.toNat % 26)] : List UInt8) = 110 :: (s.take (i + 1)).map (fun c => UInt8.ofNat (97 + c.toNat % 26)) := by
  rw [List.take_add_one, h]; simp


end Cv
