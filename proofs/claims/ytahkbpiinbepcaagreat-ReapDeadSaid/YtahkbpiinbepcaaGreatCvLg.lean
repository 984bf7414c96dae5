/-
  My own library for walks (CvPdq CvIdC CvSeq CvRet3 CvInv): separation logic over the calls of the kit; no statement of this seat stands here.
-/
import Derived.Test.YtahkbpiinbepcaaGreatCvLd
import Derived.Test.YtahkbpiinbepcaaGreatCvLc
import Derived.Test.YtahkbpiinbepcaaGreatCvLe
set_option linter.unusedVariables false
set_option linter.unusedSimpArgs false
set_option linter.unusedSectionVars false
namespace Cv
open Go
/-! ## pdqsort: plain laws -/
section
variable {α : Type} [Inhabited α]
structure SWO (cf : α → α → Int) : Prop where
  asym : ∀ x y, cf x y < 0 → ¬ cf y x < 0
  ntrans : ∀ x y z, ¬ cf x y < 0 → ¬ cf y z < 0 → ¬ cf x z < 0
structure PI (a b : Nat) (xs ys : List α) : Prop where
  len : ys.length = xs.length
  out : ∀ k, k < a ∨ b ≤ k → gd ys k = gd xs k
  inn : ∀ k, a ≤ k → k < b → ∃ r, a ≤ r ∧ r < b ∧ gd ys k = gd xs r
  perm : ys.Perm xs
theorem PI.refl (a b : Nat) (xs : List α) : PI a b xs xs := ⟨rfl, fun _ _ => rfl, fun k h1 h2 => ⟨k, h1, h2, rfl⟩, .refl _⟩
theorem PI.trans {a b : Nat} {xs ys zs : List α} (h : PI a b xs ys) (k : PI a b ys zs) : PI a b xs zs where
  len := k.len.trans h.len
  out i hi := (k.out i hi).trans (h.out i hi)
  inn i h1 h2 := by
    obtain ⟨r, r1, r2, e⟩ := k.inn i h1 h2
    obtain ⟨s, s1, s2, f⟩ := h.inn r r1 r2
    exact ⟨s, s1, s2, e.trans f⟩
  perm := k.perm.trans h.perm
theorem PI.wide {a b a' b' : Nat} {xs ys : List α} (h : PI a b xs ys) (ha : a' ≤ a) (hb : b ≤ b') : PI a' b' xs ys where
  len := h.len
  out k hk := h.out k (by omega)
  inn k h1 h2 := by
    by_cases e : a ≤ k ∧ k < b
    · obtain ⟨r, r1, r2, f⟩ := h.inn k e.1 e.2
      exact ⟨r, by omega, by omega, f⟩
    · exact ⟨k, h1, h2, h.out k (by omega)⟩
  perm := h.perm
theorem PI.sw {a b i j : Nat} {xs : List α} (hb : b ≤ xs.length) (i1 : a ≤ i) (i2 : i < b) (j1 : a ≤ j) (j2 : j < b) : PI a b xs (sw xs i j) where
  len := by simp [Cv.sw]
  out k hk := by rw [gd_sw (by omega) (by omega), if_neg (by omega), if_neg (by omega)]
  inn k h1 h2 := by
    rw [gd_sw (by omega) (by omega)]
    split
    · exact ⟨i, i1, i2, rfl⟩
    · split
      · exact ⟨j, j1, j2, rfl⟩
      · exact ⟨k, h1, h2, rfl⟩
  perm := sw_perm (by omega) (by omega)
variable {cf : α → α → Int}
def NL (cf : α → α → Int) (zs : List α) (p q : Nat) : Prop := ¬ cf (gd zs q) (gd zs p) < 0
theorem NL.trans (hO : SWO cf) {zs : List α} {p q r : Nat} (h : NL cf zs p q) (k : NL cf zs q r) : NL cf zs p r := hO.ntrans _ _ _ k h
def SB (cf : α → α → Int) (zs : List α) (A B a b : Nat) : Prop := ∀ p q, p < q → A ≤ q → q < B → ¬ (a ≤ p ∧ q < b) → NL cf zs p q
def FinS (cf : α → α → Int) (zs : List α) (A B : Nat) : Prop := ∀ p q, p < q → A ≤ q → q < B → NL cf zs p q
theorem SB.pi {zs ys : List α} {A B a b : Nat} (h : SB cf zs A B a b) (k : PI a b zs ys) (h1 : A ≤ a) (h2 : b ≤ B) : SB cf ys A B a b := by
  intro p q hpq hA hB hn
  unfold NL
  by_cases hp : a ≤ p ∧ p < b
  · obtain ⟨r, r1, r2, e⟩ := k.inn p hp.1 hp.2
    rw [e, k.out q (by omega)]
    exact h r q (by omega) hA hB (by omega)
  · rw [k.out p (by omega)]
    by_cases hq : a ≤ q ∧ q < b
    · obtain ⟨r, r1, r2, e⟩ := k.inn q hq.1 hq.2
      rw [e]
      exact h p r (by omega) (by omega) (by omega) (by omega)
    · rw [k.out q (by omega)]
      exact h p q hpq hA hB hn
theorem SB.fin {zs : List α} {A B a b : Nat} (h : SB cf zs A B a b) (k : ∀ p q, a ≤ p → p < q → q < b → NL cf zs p q) : FinS cf zs A B := fun p q hpq hA hB => by
  by_cases e : a ≤ p ∧ q < b
  · exact k p q e.1 hpq e.2
  · exact h p q hpq hA hB e
theorem SB.here {zs : List α} {A B a b : Nat} (h : SB cf zs A B a b) (h1 : A ≤ a) (h2 : b ≤ B) : SB cf zs a b a b := fun p q hpq hA hB hn => h p q hpq (by omega) (by omega) hn
def Part (cf : α → α → Int) (zs : List α) (a m b : Nat) : Prop := (∀ p, a ≤ p → p < m → NL cf zs p m) ∧ ∀ q, m < q → q < b → NL cf zs m q
theorem Part.pre (hO : SWO cf) {zs : List α} {A B a m b : Nat} (h : SB cf zs A B a b) (k : Part cf zs a m b) (h1 : A ≤ a) (h2 : b ≤ B) (hm : a ≤ m ∧ m < b) : SB cf zs a m a m ∧ SB cf zs (m + 1) b (m + 1) b := by
  refine ⟨fun p q hpq hA hB hn => h p q hpq (by omega) (by omega) (by omega), fun p q hpq hA hB hn => ?_⟩
  by_cases e : a ≤ p
  · by_cases e2 : p = m
    · subst e2; exact k.2 q (by omega) hB
    · exact (k.1 p e (by omega)).trans hO (k.2 q (by omega) hB)
  · exact h p q hpq (by omega) (by omega) (by omega)
theorem Part.left (hO : SWO cf) {zs ys : List α} {A B a m b : Nat} (h : SB cf zs A B a b) (k : Part cf zs a m b) (h1 : A ≤ a) (h2 : b ≤ B) (hm : a ≤ m ∧ m < b) (hp : PI a m zs ys) (hf : FinS cf ys a m) : SB cf ys A B (m + 1) b := by
  have h' := h.pi (hp.wide (Nat.le_refl _) (by omega)) h1 h2
  have k1 : ∀ p, a ≤ p → p < m → NL cf ys p m := fun p p1 p2 => by
    obtain ⟨r, r1, r2, e⟩ := hp.inn p p1 p2
    unfold NL; rw [e, hp.out m (by omega)]; exact k.1 r r1 r2
  have k2 : ∀ q, m < q → q < b → NL cf ys m q := fun q q1 q2 => by
    unfold NL; rw [hp.out q (by omega), hp.out m (by omega)]; exact k.2 q q1 q2
  intro p q hpq hA hB hn
  by_cases e : a ≤ p ∧ q < b
  · by_cases e1 : q < m
    · exact hf p q hpq (by omega) e1
    · by_cases e2 : q = m
      · subst e2; exact k1 p e.1 (by omega)
      · by_cases e3 : p = m
        · subst e3; exact k2 q (by omega) e.2
        · exact (k1 p e.1 (by omega)).trans hO (k2 q (by omega) e.2)
  · exact h' p q hpq hA hB e
theorem Part.right (hO : SWO cf) {zs ys : List α} {A B a m b : Nat} (h : SB cf zs A B a b) (k : Part cf zs a m b) (h1 : A ≤ a) (h2 : b ≤ B) (hm : a ≤ m ∧ m < b) (hp : PI (m + 1) b zs ys) (hf : FinS cf ys (m + 1) b) : SB cf ys A B a m := by
  have h' := h.pi (hp.wide (by omega) (Nat.le_refl _)) h1 h2
  have k1 : ∀ p, a ≤ p → p < m → NL cf ys p m := fun p p1 p2 => by
    unfold NL; rw [hp.out p (by omega), hp.out m (by omega)]; exact k.1 p p1 p2
  have k2 : ∀ q, m < q → q < b → NL cf ys m q := fun q q1 q2 => by
    obtain ⟨r, r1, r2, e⟩ := hp.inn q (by omega) q2
    unfold NL; rw [e, hp.out m (by omega)]; exact k.2 r (by omega) r2
  intro p q hpq hA hB hn
  by_cases e : a ≤ p ∧ q < b
  · by_cases e1 : m < p
    · exact hf p q hpq (by omega) e.2
    · by_cases e2 : q = m
      · subst e2; exact k1 p e.1 (by omega)
      · by_cases e3 : p = m
        · subst e3; exact k2 q (by omega) e.2
        · exact (k1 p e.1 (by omega)).trans hO (k2 q (by omega) e.2)
  · exact h' p q hpq hA hB e
theorem SB.equal (hO : SWO cf) {zs : List α} {A B a m b : Nat} (h : SB cf zs A B a b) (h1 : A ≤ a) (h2 : b ≤ B) (hm : a < m ∧ m ≤ b) (h0 : 0 < a) (he : ¬ cf (gd zs (a - 1)) (gd zs a) < 0) (k1 : ∀ p, a ≤ p → p < m → ¬ cf (gd zs a) (gd zs p) < 0) (k2 : ∀ q, m ≤ q → q < b → cf (gd zs a) (gd zs q) < 0) : SB cf zs A B m b := by
  intro p q hpq hA hB hn
  by_cases e : a ≤ p ∧ q < b
  · by_cases e1 : q < m
    · have q1 : NL cf zs (a - 1) q := h (a - 1) q (by omega) hA hB (by omega)
      exact hO.ntrans _ _ _ (hO.ntrans _ _ _ q1 he) (k1 p e.1 (by omega))
    · exact hO.ntrans _ _ _ (hO.asym _ _ (k2 q (by omega) e.2)) (k1 p e.1 (by omega))
  · exact h p q hpq hA hB e
/-! ### inserting -/
def SrtP (cf : α → α → Int) (zs : List α) (a i : Nat) : Prop := ∀ p q, a ≤ p → p < q → q < i → NL cf zs p q
def InB (cf : α → α → Int) (zs : List α) (a i j : Nat) : Prop := (∀ p q, a ≤ p → p < q → q ≤ i → p ≠ j → q ≠ j → NL cf zs p q) ∧ ∀ q, j < q → q ≤ i → NL cf zs j q
theorem SrtP.start {zs : List α} {a i : Nat} (h : SrtP cf zs a i) : InB cf zs a i i := ⟨fun p q h1 h2 h3 h4 h5 => h p q h1 h2 (by omega), fun q h1 h2 => by omega⟩
theorem InB.swap (hO : SWO cf) {zs : List α} {a i j : Nat} (h : InB cf zs a i j) (hi : i < zs.length) (hj : j ≤ i) (h0 : a < j) (hl : cf (gd zs j) (gd zs (j - 1)) < 0) : InB cf (sw zs j (j - 1)) a i (j - 1) := by
  obtain ⟨h1, h2⟩ := h
  have g : ∀ k, gd (sw zs j (j - 1)) k = if k = j - 1 then gd zs j else if k = j then gd zs (j - 1) else gd zs k := fun k => gd_sw (by omega) (by omega)
  refine ⟨fun p q a1 b c d e => ?_, fun q a1 b => ?_⟩
  · unfold NL
    rw [g p, g q, if_neg d, if_neg e]
    by_cases e1 : p = j
    · rw [if_pos e1, if_neg (by omega)]; exact h1 (j - 1) q (by omega) (by omega) c (by omega) (by omega)
    · rw [if_neg e1]
      by_cases e2 : q = j
      · rw [if_pos e2]; exact h1 p (j - 1) a1 (by omega) (by omega) e1 (by omega)
      · rw [if_neg e2]; exact h1 p q a1 b c e1 e2
  · unfold NL
    rw [g (j - 1), g q, if_pos rfl, if_neg (by omega)]
    by_cases e2 : q = j
    · rw [if_pos e2]; exact hO.asym _ _ hl
    · rw [if_neg e2]; exact h2 q (by omega) b
theorem InB.stop (hO : SWO cf) {zs : List α} {a i j : Nat} (h : InB cf zs a i j) (hj : j ≤ i) (ha : a ≤ j) (hl : a < j → NL cf zs (j - 1) j) : SrtP cf zs a (i + 1) := by
  obtain ⟨h1, h2⟩ := h
  intro p q a1 b c
  by_cases e1 : p = j
  · subst e1; exact h2 q b (by omega)
  · by_cases e2 : q = j
    · subst e2
      by_cases e3 : p = q - 1
      · subst e3; exact hl (by omega)
      · exact (h1 p (q - 1) a1 (by omega) (by omega) e1 (by omega)).trans hO (hl (by omega))
    · exact h1 p q a1 b (by omega) e1 e2
theorem SrtP.more (hO : SWO cf) {zs : List α} {a i : Nat} (h : SrtP cf zs a i) (hl : a < i → NL cf zs (i - 1) i) : SrtP cf zs a (i + 1) := by
  intro p q a1 b c
  by_cases e : q = i
  · subst e
    by_cases e2 : p = q - 1
    · subst e2; exact hl (by omega)
    · exact (h p (q - 1) a1 (by omega) (by omega)).trans hO (hl (by omega))
  · exact h p q a1 b (by omega)
theorem SrtP.one {zs : List α} {a : Nat} : SrtP cf zs a (a + 1) := fun p q h1 h2 h3 => by omega
theorem SrtP.pi {zs ys : List α} {a i b : Nat} (h : SrtP cf zs a i) (k : PI i b zs ys) : SrtP cf ys a i := fun p q a1 b c => by
  unfold NL; rw [k.out p (by omega), k.out q (by omega)]; exact h p q a1 b c
/-! ### heaps -/
def Heap (cf : α → α → Int) (zs : List α) (f lo hi : Nat) : Prop := ∀ i c, lo ≤ i → (c = 2 * i + 1 ∨ c = 2 * i + 2) → c < hi → ¬ cf (gd zs (f + i)) (gd zs (f + c)) < 0
def HeapB (cf : α → α → Int) (zs : List α) (f lo hi r : Nat) : Prop := (∀ i c, lo ≤ i → (c = 2 * i + 1 ∨ c = 2 * i + 2) → c < hi → i ≠ r → ¬ cf (gd zs (f + i)) (gd zs (f + c)) < 0) ∧ ∀ g c, lo ≤ g → (r = 2 * g + 1 ∨ r = 2 * g + 2) → (c = 2 * r + 1 ∨ c = 2 * r + 2) → c < hi → ¬ cf (gd zs (f + g)) (gd zs (f + c)) < 0
theorem Heap.start {zs : List α} {f lo hi : Nat} (h : Heap cf zs f (lo + 1) hi) : HeapB cf zs f lo hi lo := ⟨fun i c h1 h2 h3 h4 => h i c (by omega) h2 h3, fun g c h1 h2 => by omega⟩
theorem HeapB.swap (hO : SWO cf) {zs : List α} {f lo hi r m : Nat} (h : HeapB cf zs f lo hi r) (hl : f + hi ≤ zs.length) (hr : lo ≤ r) (hm : m = 2 * r + 1 ∨ m = 2 * r + 2) (hmh : m < hi) (ho : ∀ o, (o = 2 * r + 1 ∨ o = 2 * r + 2) → o < hi → ¬ cf (gd zs (f + m)) (gd zs (f + o)) < 0) (hc : cf (gd zs (f + r)) (gd zs (f + m)) < 0) : HeapB cf (sw zs (f + r) (f + m)) f lo hi m := by
  obtain ⟨h1, h2⟩ := h
  have g : ∀ k, gd (sw zs (f + r) (f + m)) k = if k = f + m then gd zs (f + r) else if k = f + r then gd zs (f + m) else gd zs k := fun k => gd_sw (by omega) (by omega)
  refine ⟨fun i c a b d e => ?_, fun p c a b d e => ?_⟩
  · rw [g (f + i), g (f + c), if_neg (by omega)]
    by_cases e1 : i = r
    · subst e1
      rw [if_pos rfl]
      by_cases e2 : c = m
      · subst e2; rw [if_pos rfl]; exact hO.asym _ _ hc
      · rw [if_neg (by omega), if_neg (by omega)]; exact ho c b d
    · rw [if_neg (by omega), if_neg (by omega)]
      by_cases e2 : c = r
      · subst e2; rw [if_pos rfl]; exact h2 i m a b hm hmh
      · rw [if_neg (by omega)]; exact h1 i c a b d e1
  · have : p = r := by omega
    subst this
    rw [g (f + p), g (f + c), if_neg (by omega), if_pos rfl, if_neg (by omega), if_neg (by omega)]
    exact h1 m c (by omega) d e (by omega)
theorem HeapB.leaf {zs : List α} {f lo hi r : Nat} (h : HeapB cf zs f lo hi r) (hr : hi ≤ 2 * r + 1) : Heap cf zs f lo hi := fun i c a b d => by
  by_cases e : i = r
  · omega
  · exact h.1 i c a b d e
theorem HeapB.stop (hO : SWO cf) {zs : List α} {f lo hi r m : Nat} (h : HeapB cf zs f lo hi r) (ho : ∀ o, (o = 2 * r + 1 ∨ o = 2 * r + 2) → o < hi → ¬ cf (gd zs (f + m)) (gd zs (f + o)) < 0) (hc : ¬ cf (gd zs (f + r)) (gd zs (f + m)) < 0) : Heap cf zs f lo hi := fun i c a b d => by
  by_cases e : i = r
  · subst e; exact hO.ntrans _ _ _ hc (ho c b d)
  · exact h.1 i c a b d e
theorem Heap.top (hO : SWO cf) {zs : List α} {f hi : Nat} (h : Heap cf zs f 0 hi) (hirr : ∀ x, ¬ cf x x < 0) : ∀ p, p < hi → ¬ cf (gd zs f) (gd zs (f + p)) < 0 := by
  intro p
  induction p using Nat.strongRecOn with
  | _ p ih =>
    intro hp
    by_cases e : p = 0
    · subst e; exact hirr _
    · have h1 := ih ((p - 1) / 2) (by omega) (by omega)
      exact hO.ntrans _ _ _ h1 (h ((p - 1) / 2) p (by omega) (by omega) hp)
theorem Heap.last {zs : List α} {f hi i : Nat} (h : hi ≤ 2 * i + 1) : Heap cf zs f i hi := fun j c a b d => by omega
def Tail (cf : α → α → Int) (zs : List α) (f k hi : Nat) : Prop := ∀ p q, p < q → k ≤ q → q < hi → NL cf zs (f + p) (f + q)
theorem Tail.pop (hO : SWO cf) (hirr : ∀ x, ¬ cf x x < 0) {zs : List α} {f k hi : Nat} (h : Tail cf zs f (k + 1) hi) (hp : Heap cf zs f 0 (k + 1)) (hk : k < hi) (hl : f + hi ≤ zs.length) : Tail cf (sw zs f (f + k)) f k hi ∧ Heap cf (sw zs f (f + k)) f 1 k := by
  have g : ∀ x, gd (sw zs f (f + k)) x = if x = f + k then gd zs f else if x = f then gd zs (f + k) else gd zs x := fun x => gd_sw (by omega) (by omega)
  have top := hp.top hO hirr
  refine ⟨fun p q hpq h1 h2 => ?_, fun i c a b d => ?_⟩
  · unfold NL
    rw [g (f + p), g (f + q)]
    by_cases e : q = k
    · subst e
      rw [if_pos rfl, if_neg (by omega)]
      by_cases e2 : p = 0
      · subst e2; rw [if_pos (show f + 0 = f by omega)]; exact top q (by omega)
      · rw [if_neg (by omega)]; exact top p (by omega)
    · rw [if_neg (by omega), if_neg (by omega)]
      by_cases e2 : p = k
      · subst e2; rw [if_pos rfl]; exact h 0 q (by omega) (by omega) h2
      · rw [if_neg (by omega)]
        by_cases e3 : p = 0
        · subst e3; rw [if_pos (show f + 0 = f by omega)]; exact h k q (by omega) (by omega) h2
        · rw [if_neg (by omega)]; exact h p q hpq (by omega) h2
  · rw [g (f + i), g (f + c), if_neg (by omega), if_neg (by omega), if_neg (by omega), if_neg (by omega)]
    exact hp i c (by omega) b (by omega)
theorem Tail.pi {zs ys : List α} {f k hi : Nat} (h : Tail cf zs f k hi) (p : PI f (f + k) zs ys) : Tail cf ys f k hi := fun i j hij h1 h2 => by
  unfold NL
  rw [p.out (f + j) (by omega)]
  by_cases e : i < k
  · obtain ⟨r, r1, r2, q⟩ := p.inn (f + i) (by omega) (by omega)
    rw [q]
    have := h (r - f) j (by omega) h1 h2
    unfold NL at this
    rwa [show f + (r - f) = r by omega] at this
  · rw [p.out (f + i) (by omega)]; exact h i j hij h1 h2
theorem Tail.all {zs : List α} {f hi b : Nat} (h : Tail cf zs f 0 hi) (hb : b = f + hi) : SrtP cf zs f b := fun p q a c d => by
  have := h (p - f) (q - f) (by omega) (by omega) (by omega)
  rwa [show f + (p - f) = p by omega, show f + (q - f) = q by omega] at this
/-! ### parting -/
structure PtI (cf : α → α → Int) (zs : List α) (a b i j : Nat) : Prop where
  rng : a + 1 ≤ i ∧ i ≤ j + 1 ∧ j < b
  lo : ∀ k, a < k → k < i → cf (gd zs k) (gd zs a) < 0
  hi : ∀ k, j < k → k < b → ¬ cf (gd zs k) (gd zs a) < 0
theorem PtI.start {zs : List α} {a b : Nat} (h : a < b) : PtI cf zs a b (a + 1) (b - 1) := ⟨by omega, fun k h1 h2 => by omega, fun k h1 h2 => by omega⟩
theorem PtI.up {zs : List α} {a b i j : Nat} (h : PtI cf zs a b i j) (hij : i ≤ j) (hc : cf (gd zs i) (gd zs a) < 0) : PtI cf zs a b (i + 1) j := ⟨by have := h.rng; omega, fun k h1 h2 => by
  by_cases e : k = i
  · subst e; exact hc
  · exact h.lo k h1 (by omega), h.hi⟩
theorem PtI.down {zs : List α} {a b i j : Nat} (h : PtI cf zs a b i j) (hij : i ≤ j) (hc : ¬ cf (gd zs j) (gd zs a) < 0) : PtI cf zs a b i (j - 1) := ⟨by have := h.rng; omega, h.lo, fun k h1 h2 => by
  by_cases e : k = j
  · subst e; exact hc
  · exact h.hi k (by omega) h2⟩
theorem PtI.swap {zs : List α} {a b i j : Nat} (h : PtI cf zs a b i j) (hl : b ≤ zs.length) (hij : i ≤ j) (h1 : ¬ cf (gd zs i) (gd zs a) < 0) (h2 : cf (gd zs j) (gd zs a) < 0) : PtI cf (sw zs i j) a b (i + 1) (j - 1) := by
  have hr := h.rng
  have hne : i ≠ j := fun e => by subst e; exact h1 h2
  have g : ∀ k, gd (sw zs i j) k = if k = j then gd zs i else if k = i then gd zs j else gd zs k := fun k => gd_sw (by omega) (by omega)
  refine ⟨by omega, fun k q1 q2 => ?_, fun k q1 q2 => ?_⟩
  · rw [g k, g a, if_neg (show ¬ a = j by omega), if_neg (show ¬ a = i by omega), if_neg (by omega)]
    by_cases e : k = i
    · rw [if_pos e]; exact h2
    · rw [if_neg e]; exact h.lo k q1 (by omega)
  · rw [g k, g a, if_neg (show ¬ a = j by omega), if_neg (show ¬ a = i by omega)]
    by_cases e : k = j
    · rw [if_pos e]; exact h1
    · rw [if_neg e, if_neg (by omega)]; exact h.hi k (by omega) q2
theorem PtI.end' (hO : SWO cf) {zs : List α} {a b i j : Nat} (h : PtI cf zs a b i j) (hl : b ≤ zs.length) (hij : j < i) : Part cf (sw zs j a) a j b ∧ a ≤ j ∧ j < b := by
  have hr := h.rng
  have hja : a ≤ j := by omega
  have g : ∀ k, gd (sw zs j a) k = if k = a then gd zs j else if k = j then gd zs a else gd zs k := fun k => gd_sw (by omega) (by omega)
  refine ⟨⟨fun p q1 q2 => ?_, fun q q1 q2 => ?_⟩, hja, hr.2.2⟩
  · unfold NL
    rw [g p, g j, if_neg (show ¬ j = a by omega), if_pos rfl]
    by_cases e : p = a
    · rw [if_pos e]; exact hO.asym _ _ (h.lo j (by omega) (by omega))
    · rw [if_neg e, if_neg (by omega)]; exact hO.asym _ _ (h.lo p (by omega) (by omega))
  · unfold NL
    rw [g q, g j, if_neg (show ¬ q = a by omega), if_neg (show ¬ q = j by omega)]
    by_cases e : j = a
    · rw [if_pos e, e]; exact h.hi q (by omega) q2
    · rw [if_neg e, if_pos rfl]; exact h.hi q q1 q2
structure PeI (cf : α → α → Int) (zs : List α) (a b i j : Nat) : Prop where
  rng : a + 1 ≤ i ∧ i ≤ j + 1 ∧ j < b
  lo : ∀ k, a < k → k < i → ¬ cf (gd zs a) (gd zs k) < 0
  hi : ∀ k, j < k → k < b → cf (gd zs a) (gd zs k) < 0
theorem PeI.start {zs : List α} {a b : Nat} (h : a < b) : PeI cf zs a b (a + 1) (b - 1) := ⟨by omega, fun k h1 h2 => by omega, fun k h1 h2 => by omega⟩
theorem PeI.up {zs : List α} {a b i j : Nat} (h : PeI cf zs a b i j) (hij : i ≤ j) (hc : ¬ cf (gd zs a) (gd zs i) < 0) : PeI cf zs a b (i + 1) j := ⟨by have := h.rng; omega, fun k h1 h2 => by
  by_cases e : k = i
  · subst e; exact hc
  · exact h.lo k h1 (by omega), h.hi⟩
theorem PeI.down {zs : List α} {a b i j : Nat} (h : PeI cf zs a b i j) (hij : i ≤ j) (hc : cf (gd zs a) (gd zs j) < 0) : PeI cf zs a b i (j - 1) := ⟨by have := h.rng; omega, h.lo, fun k h1 h2 => by
  by_cases e : k = j
  · subst e; exact hc
  · exact h.hi k (by omega) h2⟩
theorem PeI.swap {zs : List α} {a b i j : Nat} (h : PeI cf zs a b i j) (hl : b ≤ zs.length) (hij : i ≤ j) (h1 : cf (gd zs a) (gd zs i) < 0) (h2 : ¬ cf (gd zs a) (gd zs j) < 0) : PeI cf (sw zs i j) a b (i + 1) (j - 1) := by
  have hr := h.rng
  have hne : i ≠ j := fun e => by subst e; exact h2 h1
  have g : ∀ k, gd (sw zs i j) k = if k = j then gd zs i else if k = i then gd zs j else gd zs k := fun k => gd_sw (by omega) (by omega)
  refine ⟨by omega, fun k q1 q2 => ?_, fun k q1 q2 => ?_⟩
  · rw [g k, g a, if_neg (show ¬ a = j by omega), if_neg (show ¬ a = i by omega), if_neg (by omega)]
    by_cases e : k = i
    · rw [if_pos e]; exact h2
    · rw [if_neg e]; exact h.lo k q1 (by omega)
  · rw [g k, g a, if_neg (show ¬ a = j by omega), if_neg (show ¬ a = i by omega)]
    by_cases e : k = j
    · rw [if_pos e]; exact h1
    · rw [if_neg e, if_neg (by omega)]; exact h.hi k (by omega) q2
end
end Cv
namespace Cv
open Go
/-! ## names as rows of 32 cells -/
@[reducible] def iC (y : ID32) : List Value := y.1.map Y
theorem iC_len (y : ID32) : (iC y).length = 32 := by rw [List.length_map]; exact y.2
theorem one_iC {y : ID32} : ∀ u ∈ iC y, u.oneCell' = true := fun u hu => by
  obtain ⟨b, _, rfl⟩ := List.mem_map.1 hu; rfl
instance : Inhabited ID32 := ⟨⟨List.replicate 32 0, rfl⟩⟩
theorem one_ids {l : List ID32} : ∀ u ∈ (l.map iC).flatten, u.oneCell' = true := fun u hu => by
  obtain ⟨r, hr, hu⟩ := List.mem_flatten.1 hu
  obtain ⟨x, _, rfl⟩ := List.mem_map.1 hr
  exact one_iC u hu
/-! ### how many bits -/
structure BitsL (n k : Nat) : Prop where
  lt : n < 2 ^ k
  le : n = 0 ∨ 2 ^ k ≤ 2 * n
theorem BitsL.up {n k : Nat} (h : BitsL (n / 256) k) (hn : 256 ≤ n) : BitsL n (8 + k) := by
  obtain ⟨h1, h2⟩ := h
  have e : (2 : Nat) ^ (8 + k) = 256 * 2 ^ k := by rw [Nat.pow_add]
  refine ⟨by rw [e]; omega, .inr ?_⟩
  rw [e]; omega
theorem bitsAnd_u64 (a : Int) (b : Nat) (hb : b < 18446744073709551616) : 0 ≤ bitsAnd .u64 a (b : Int) ∧ bitsAnd .u64 a (b : Int) ≤ b := by
  unfold bitsAnd
  have e2 : (BitVec.ofInt IntKind.u64.bits (b : Int)).toNat = b := by
    simp only [IntKind.bits, BitVec.toNat_ofInt]
    have : ((b : Int) % ((2 ^ 64 : Nat) : Int)) = b := Int.emod_eq_of_lt (by omega) (by have h64 : ((2 ^ 64 : Nat) : Int) = 18446744073709551616 := (by decide); omega)
    rw [this]; simp
  have h : ((BitVec.ofInt IntKind.u64.bits a) &&& (BitVec.ofInt IntKind.u64.bits (b : Int))).toNat ≤ b := by
    rw [BitVec.toNat_and, e2]; exact Nat.and_le_right
  rw [wrap_u64 (by omega) (by omega)]
  omega
theorem two_pow_le {k : Nat} (h : k ≤ 17) : 2 ^ k ≤ 131072 := Nat.le_trans (Nat.pow_le_pow_right (by decide) h) (by decide)
theorem shl1 {k : Nat} (h : k ≤ 17) : IntKind.u64.wrap (1 * 2 ^ (min ((k : Int)).toNat IntKind.u64.bits)) = ((2 ^ k : Nat) : Int) := by
  have h1 := two_pow_le h
  have : min ((k : Int)).toNat IntKind.u64.bits = k := by simp only [IntKind.bits, Int.toNat_natCast]; omega
  rw [this, Int.one_mul, wrap_u64]
  · simp
  · exact Int.le_of_lt (Int.pow_pos (by decide))
  · have : ((2 : Int) ^ k) = ((2 ^ k : Nat) : Int) := by simp
    rw [this]; omega
end Cv
namespace Cv
open Go
/-! ## a string of bytes that one owns -/
theorem L.bytesStrO {P : Program} {σ : World} {n : Nat} {Q : Post} {K : Env} {D M : List Asn} {m : Option (List Asn × List Asn)} {ops : Array Oper} {rest : List Oper} {d : Nat} {ty : TypeId} {pos : String} {aft : Array Edge} {src dst ew : TypeId} {x : Operand} {a : Option Addr} {l : List UInt8} {e : TypeId} {len cap : Nat} (hd : Nat.blt d n = true) (hs : P.underlying src = some (.slice e)) (he : P.underlying e = some (.int .u8)) (hU : P.underlying dst = some .string) (hx : ev K x = some (.slice a len cap))
    (hm : own 1 ew a len cap (l.map yr) ∈ M) (next : TL m P σ n ops Q rest ((d, S l) :: K) D M) :
    TL m P σ n ops Q (⟨some d, .convert src dst x, ty, pos, aft, none⟩ :: rest) K D M :=
  L.quiet hd (fun ρ w s ss => by
    have h1 := s.eval hx
    obtain ⟨y', l', H0⟩ := ss.own hm
    have H := rsl_of_own H0
    obtain ⟨q1, q2, q3, q4⟩ := H
    rw [List.length_map] at q1
    have main : (Conv.bytesToString (.slice a len cap)).run P w = .ok (S l) w := by
      cases a with
      | none =>
        have : l = [] := by
          rcases q4 with e | ⟨b, o, c, t, m, e, _⟩
          · simpa using e
          · cases e
        subst this
        rfl
      | some p =>
        have hl : (loadCells p len).run P w = .ok ((l.map (fun b => (b.toNat : Int))).map (Value.int .u8)).toArray w := by
          have e1 : ((l.map (fun b => (b.toNat : Int))).map (Value.int .u8)) = l.map Y := by simp [Y]
          rw [e1, ← q1, show l.length = (l.map Y).length from by simp]
          refine run_loadCells_list (P := P) w p _ (fun j v e => ?_)
          rcases q4 with e' | ⟨b, o, c, t, m, e1, e2, e3⟩
          · have : l = [] := by simpa using e'
            subst this; simp at e
          · injection e1 with e1; subst e1
            rw [add_lit, cell_of (l' _ _ e2)]
            rw [List.getElem?_map] at e
            cases hj : l[j]? with
            | none => rw [hj] at e; cases e
            | some z =>
              rw [hj] at e; injection e with e; subst e
              have := e3 j 0 (yr z) (Y z) (by rw [List.getElem?_map, hj]; rfl) rfl
              simpa using this
        rw [run_bytesToString w p len cap _ hl, foldl_push]
        rfl
    simp only [execOp, h1, run_convert_bytes_string w src dst e a len cap hs he hU]
    rw [Sem.run_bind, run_convert_bytes_string w src dst e a len cap hs he hU, main]
    rfl) next
end Cv
namespace Cv
open Go
theorem T.retATT {P : Program} {σ : World} {n : Nat} {K : Env} {D M : List Asn} {fn : Func} {t u x k : Nat} {tt : TypeId} {b off : Nat} {R : Value → List Asn → List Asn → Prop} {D0 M0 D' M' : List Asn} {vs : List Value} {v y : Value} (hr : fn.results = #[.cell t tt, .tmp u, .tmp x]) (hS : Ag P tt k) (hx : get K t = some (.pointer (some ⟨b, off, none⟩))) (hc : CellsN (dset σ []) D M b off k vs) (hv : get K u = some v) (hy : get K x = some y)
    (hR : R (.tuple #[.agg vs.toArray, v, y]) D' M') (hD : SubD (D' ++ D0) D) (hM : Ent M (M' ++ M0)) : T (dset σ []) n (bPost P fn (RetPost (dset σ []) R D0 M0) .ret) K D M :=
  T.ret0 (.inl rfl) (fun a w s ss => by
    obtain ⟨hl, hc⟩ := hc
    obtain ⟨c, t', m, hb, hv'⟩ := hc w ss
    have h1 : (loadCells ⟨b, off, none⟩ vs.length).run P w = .ok vs.toArray w := run_loadCells_list (P := P) w _ vs (fun j v e => by rw [add_lit, cell_of hb]; exact hv' j v e)
    have h2 := (hS w).1
    have h4 := (hS w).2
    have h3 := s.val t _ hx
    have h5 := s.val u _ hv
    have h6 := s.val x _ hy
    rw [Array.getD_eq_getD_getElem?] at h3 h5 h6
    subst hl
    simp [results, hr, h3, h5, h6, asAddr, loadVar, h2, h4, h1, Sem.run]) hR hD hM
end Cv
namespace Cv
open Go
/-! ## methods of interface values -/
def Mth (P : Program) (t : TypeId) (v : Value) (name : String) (f : FuncId) (u : Value) : Prop := ∀ w, (method (P.types.size + Made.depth) t v name).run P w = .ok (f, u) w
section
variable {P : Program} {σ : World} {n : Nat} {Q : Post} {K : Env} {D M : List Asn} {m : Option (List Asn × List Asn)} {ops : Array Oper} {rest : List Oper} {d : Nat} {ty : TypeId} {pos : String} {aft : Array Edge}
theorem inv_run {f : FuncId} {recv : Operand} {name : String} {t : TypeId} {rv u : Value} {xs : List Operand} {ats : Array TypeId} {args : List Value} {g : Option (Nat × Bool)} {dst : Option Nat} {a : Act} {w : World} (s : Slots σ n K a) (hr : ev K recv = some (.iface t rv)) (hm : Mth P t rv name f u) (hx : evs K xs args) (hS : IsFn P f) :
    (execOp a.eval ⟨dst, .call { callee := .invoke recv name, args := xs.toArray, argTypes := ats }, ty, pos, aft, g⟩).run P w = .ok (.enter f (u :: args).toArray) w := by
  have h1 := hS (u :: args).toArray w
  have h2 : xs.map a.eval = args := s.evals hx
  have h3 : a.eval recv = .iface t rv := s.eval hr
  have h4 := hm w
  have hp : (program).run P w = .ok P w := rfl
  have e1 : (#[Value.iface t rv] ++ args.toArray).extract 1 (#[Value.iface t rv] ++ args.toArray).size = args.toArray := by
    apply Array.ext'; simp
  have e2 : (#[u] ++ args.toArray) = (u :: args).toArray := by apply Array.ext'; simp
  have e0 : (#[Value.iface t rv] ++ args.toArray)[0]? = some (Value.iface t rv) := by simp
  have e3 : (callMethod (.iface t rv) name args.toArray).run P w = .ok (.enter f (u :: args).toArray) w := by
    unfold callMethod
    simp only [Sem.run_bind, hp, Result.andThen_ok, h4, e2]
    exact h1
  simp only [execOp, resolve, List.map_toArray, h2, h3, Sem.run_bind, Sem.run_pure, Result.andThen_ok, invoke, e0, e1, e3]
theorem L.inv {f : FuncId} {recv : Operand} {name : String} {t : TypeId} {rv u : Value} {xs : List Operand} {ats : Array TypeId} {args : List Value} {D0 M0 F : List Asn} {R : Value → List Asn → List Asn → Prop} (hd : Nat.blt d n = true) (hr : ev K recv = some (.iface t rv)) (hm : Mth P t rv name f u) (hx : evs K xs args) (hD : SubD D0 D) (hM : Sel M0 M F)
    (hS : Spec P f (u :: args) D0 M0 R) (next : ∀ v D' M', R v D' M' → TL none P σ n ops Q rest ((d, v) :: K) (D' ++ D) (M' ++ F)) :
    TL none P σ n ops Q (⟨some d, .call { callee := .invoke recv name, args := xs.toArray, argTypes := ats }, ty, pos, aft, none⟩ :: rest) K D M :=
  L.op rfl (fun _ _ _ _ c hc => by cases hc) fun a w s t K' hK' => by
    unfold Oper.wp
    rw [inv_run s hr hm hx hS.fn]
    refine (hS.run σ D F w ((t.facts (SubD.append hD (.refl _))).ent hM)).mono ?_
    rintro e w' ⟨v, D', M', rfl, hR, hs⟩
    exact hK' _ _ (next v D' M' hR _ _ (s.put v hd) hs)
theorem L.mkIface {x : Operand} {t : TypeId} {v : Value} {s : TypeDesc} (hd : Nat.blt d n = true) (hU : P.underlying t = some s) (hn : ∀ i, s ≠ .interface i) (hx : ev K x = some v) (next : TL m P σ n ops Q rest ((d, .iface t v) :: K) D M) :
    TL m P σ n ops Q (⟨some d, .makeInterface t x, ty, pos, aft, none⟩ :: rest) K D M :=
  L.pureOp hd (fun ρ w s' => by
    have e1 := s' hx
    simp only [execOp, e1, Instr.makeInterface, Sem.run_bind, run_underlying hU, Result.andThen_ok]
    cases s with
    | interface i => exact absurd rfl (hn i)
    | _ => rfl) next
end
end Cv
