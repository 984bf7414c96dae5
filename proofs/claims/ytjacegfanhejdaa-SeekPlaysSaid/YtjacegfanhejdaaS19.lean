/-
  The walks: bucket.Sort.
-/
import Derived.Test.YtjacegfanhejdaaB19
import Derived.Test.YtjacegfanhejdaaSo19
import Derived.Test.YtjacegfanhejdaaCvLd
import Derived.Test.YtjacegfanhejdaaCvLe
import Derived.Test.YtjacegfanhejdaaProg
import Derived.KernelRfl
set_option linter.unusedVariables false
set_option linter.unusedSimpArgs false
set_option linter.unusedSectionVars false
set_option maxRecDepth 10000
namespace Cv
open Go Go.Proofs
structure SWOc (cf : Int → Int → Int) : Prop where
  irrefl : ∀ x, ¬ cf x x < 0
  asym : ∀ x y, cf x y < 0 → ¬ cf y x < 0
  ntrans : ∀ x y z, ¬ cf x y < 0 → ¬ cf y z < 0 → ¬ cf x z < 0
def orF : List Int → Int
  | [] => 0
  | x :: xs => if x ≠ 0 then x else orF xs
def cmpI (x y : Int) : Int := if x < y then -1 else if y < x then 1 else 0
theorem orF_drop {xs : List Int} {k : Nat} (h : k < xs.length) : orF (xs.drop k) = if gd xs k ≠ 0 then gd xs k else orF (xs.drop (k + 1)) := by
  rw [List.drop_eq_getElem_cons h]
  simp [orF, gd, h]
/-- a number among others, ahead of the first that comes behind it -/
def insL (c : Int → Int → Bool) (n : Int) : List Int → List Int
  | [] => [n]
  | x :: xs => if c n x then n :: x :: xs else x :: insL c n xs
def sortR (c : Int → Int → Bool) (may : Int → Bool) (all : List Int) (k : Nat) : List Int := (all.take k).foldl (fun out n => if may n then insL c n out else out) []
theorem sortR_s {c : Int → Int → Bool} {may : Int → Bool} {all : List Int} {k : Nat} (h : k < all.length) : sortR c may all (k + 1) = if may (gd all k) then insL c (gd all k) (sortR c may all k) else sortR c may all k := by
  unfold sortR
  rw [take_gd h, List.foldl_append]; rfl
theorem insL_perm {c : Int → Int → Bool} {n : Int} : ∀ l, (insL c n l).Perm (n :: l)
  | [] => .refl _
  | x :: xs => by
    unfold insL
    split
    · exact .refl _
    · exact ((insL_perm xs).cons x).trans (List.Perm.swap _ _ _)
theorem sortR_perm {c : Int → Int → Bool} {may : Int → Bool} {all : List Int} : ∀ k, k ≤ all.length → (sortR c may all k).Perm ((all.take k).filter may)
  | 0, _ => by simp [sortR]
  | k + 1, hk => by
    rw [sortR_s (by omega), take_gd (by omega), List.filter_append]
    have ih := sortR_perm (c := c) (may := may) (all := all) k (by omega)
    cases hm : may (gd all k) with
    | true =>
      simp only [if_true, List.filter_cons, hm, List.filter_nil]
      exact (insL_perm _).trans ((List.Perm.cons _ ih).trans (List.perm_append_singleton _ _).symm)
    | false => simpa [hm] using ih
theorem insL_mem {c : Int → Int → Bool} {n y : Int} {l : List Int} (h : y ∈ insL c n l) : y = n ∨ y ∈ l := by
  have := (insL_perm (c := c) (n := n) l).mem_iff.1 h
  simpa using this
def Rise (cf : Int → Int → Int) (l : List Int) : Prop := l.Pairwise (fun x y => ¬ cf y x < 0)
theorem insL_rise {cf : Int → Int → Int} {c : Int → Int → Bool} (hO : SWOc cf) (hc : ∀ x y, c x y = true ↔ cf x y < 0) {n : Int} : ∀ {l : List Int}, Rise cf l → Rise cf (insL c n l)
  | [], _ => by unfold insL Rise; simp
  | x :: xs, h => by
    unfold Rise at h ⊢
    rw [List.pairwise_cons] at h
    unfold insL
    split
    · rename_i hn
      have hlt := (hc n x).1 hn
      refine List.pairwise_cons.2 ⟨fun y hy => ?_, List.pairwise_cons.2 h⟩
      rcases List.mem_cons.1 hy with rfl | hy
      · exact hO.asym _ _ hlt
      · exact hO.ntrans _ _ _ (h.1 y hy) (hO.asym _ _ hlt)
    · rename_i hn
      refine List.pairwise_cons.2 ⟨fun y hy => ?_, insL_rise hO hc h.2⟩
      rcases insL_mem hy with rfl | hy
      · exact fun e => hn ((hc y x).2 e)
      · exact h.1 y hy
theorem sortR_rise {cf : Int → Int → Int} {c : Int → Int → Bool} {may : Int → Bool} {all : List Int} (hO : SWOc cf) (hc : ∀ x y, c x y = true ↔ cf x y < 0) : ∀ k, k ≤ all.length → Rise cf (sortR c may all k)
  | 0, _ => by simp [sortR, Rise]
  | k + 1, hk => by
    rw [sortR_s (by omega)]
    split
    · exact insL_rise hO hc (sortR_rise hO hc k (by omega))
    · exact sortR_rise hO hc k (by omega)
/-- a number is on its way into a list -/
def InsI (c : Int → Int → Bool) (n : Int) (out nx : List Int) (dn : Bool) (j : Nat) : Prop := nx ++ (if dn then out.drop j else insL c n (out.drop j)) = insL c n out
theorem insI_0 {c : Int → Int → Bool} {n : Int} {out : List Int} : InsI c n out [] false 0 := rfl
theorem insI_hit {c : Int → Int → Bool} {n x : Int} {out nx : List Int} {dn : Bool} {j : Nat} (h : InsI c n out nx dn j) (hd : dn = false) (hx : out[j]? = some x) (hc : c n x = true) : InsI c n out (nx ++ [n] ++ [x]) true (j + 1) := by
  subst hd
  unfold InsI at h ⊢
  have hj : j < out.length := (List.getElem?_eq_some_iff.1 hx).1
  have he : out[j] = x := (List.getElem?_eq_some_iff.1 hx).2
  rw [List.drop_eq_getElem_cons hj, he] at h
  rw [← h]
  simp [insL, hc]
theorem insI_no {c : Int → Int → Bool} {n x : Int} {out nx : List Int} {dn : Bool} {j : Nat} (h : InsI c n out nx dn j) (hx : out[j]? = some x) (hc : dn = true ∨ c n x = false) : InsI c n out (nx ++ [x]) dn (j + 1) := by
  unfold InsI at h ⊢
  have hj : j < out.length := (List.getElem?_eq_some_iff.1 hx).1
  have he : out[j] = x := (List.getElem?_eq_some_iff.1 hx).2
  rw [List.drop_eq_getElem_cons hj, he] at h
  rw [← h]
  cases dn with
  | true => simp
  | false =>
    have : c n x = false := by simpa using hc
    simp [insL, this]
theorem insI_endT {c : Int → Int → Bool} {n : Int} {out nx : List Int} {dn : Bool} (h : InsI c n out nx dn out.length) (hd : dn = false) : nx ++ [n] = insL c n out := by
  subst hd
  unfold InsI at h
  rw [List.drop_length] at h
  simpa [insL] using h
theorem insI_endF {c : Int → Int → Bool} {n : Int} {out nx : List Int} {dn : Bool} (h : InsI c n out nx dn out.length) (hd : dn = true) : nx = insL c n out := by
  subst hd
  unfold InsI at h
  rw [List.drop_length] at h
  simpa using h
theorem sortR_le {c : Int → Int → Bool} {may : Int → Bool} {all : List Int} {k : Nat} (hk : k ≤ all.length) : (sortR c may all k).length ≤ k := by
  have h := (sortR_perm (c := c) (may := may) (all := all) k hk).length_eq
  rw [h]
  exact Nat.le_trans (List.length_filter_le _ _) (by rw [List.length_take]; omega)
/-! ## names padded, keys, the order of nearness -/
def nmF (s : List UInt8) : List UInt8 := s.take 32 ++ List.replicate (32 - s.length) 0
theorem nmF_len (s : List UInt8) : (nmF s).length = 32 := by simp [nmF]; omega
def cfG (g : List UInt8) (x y : Int) : Int := orF [cmpB (xorL g (idF x)) (xorL g (idF y)), cmpI x y]
def keyS (g : List UInt8) (n : Int) : List UInt8 := xorL g (idF n) ++ [kb n]
def cG (g : List UInt8) (n x : Int) : Bool := bless (keyS g n) (keyS g x)
@[reducible] def kr (g : List UInt8) (x : Int) : List Value := [S (keyS g x)]
theorem cfG_lt {g : List UInt8} {x y : Int} : cfG g x y < 0 ↔ cmpB (xorL g (idF x)) (xorL g (idF y)) < 0 ∨ (cmpB (xorL g (idF x)) (xorL g (idF y)) = 0 ∧ x < y) := by
  unfold cfG orF orF orF
  by_cases h : cmpB (xorL g (idF x)) (xorL g (idF y)) ≠ 0
  · rw [if_pos h]; omega
  · rw [if_neg h]
    have h0 : cmpB (xorL g (idF x)) (xorL g (idF y)) = 0 := Decidable.of_not_not h
    simp only [h0, cmpI]
    by_cases h1 : x < y
    · simp [h1]
    · by_cases h2 : y < x
      · simp [h1, h2]
      · simp [h1, h2]
theorem cfG_asym {g : List UInt8} {x y : Int} (h : cfG g x y < 0) : ¬ cfG g y x < 0 := by
  rw [cfG_lt] at *
  have := cmpB_neg (xorL g (idF x)) (xorL g (idF y))
  omega
theorem cfG_trans {g : List UInt8} {x y z : Int} (h : cfG g x y < 0) (k : cfG g y z < 0) : cfG g x z < 0 := by
  rw [cfG_lt] at *
  rcases h with h | ⟨h1, h2⟩
  · rcases k with k | ⟨k1, k2⟩
    · exact .inl (cmpB_trans h k)
    · rw [← cmpB_eq k1]; exact .inl h
  · rcases k with k | ⟨k1, k2⟩
    · rw [cmpB_eq h1]; exact .inl k
    · rw [cmpB_eq h1, cmpB_eq k1]; exact .inr ⟨cmpB_self _, by omega⟩
theorem cfG_total {g : List UInt8} {x y : Int} (h : ¬ cfG g x y < 0) (k : ¬ cfG g y x < 0) : x = y := by
  rw [cfG_lt] at *
  have := cmpB_neg (xorL g (idF x)) (xorL g (idF y))
  have := cmpB_vals (xorL g (idF x)) (xorL g (idF y))
  omega
theorem cfG_ntrans {g : List UInt8} {x y z : Int} (h : ¬ cfG g x y < 0) (k : ¬ cfG g y z < 0) : ¬ cfG g x z < 0 := fun e => by
  by_cases h1 : cfG g y x < 0
  · exact k (cfG_trans h1 e)
  · have := cfG_total h h1
    subst this
    exact k e
theorem cfG_swo (g : List UInt8) : Go.Sort.SWO (ltOf (cfG g)) where
  irrefl x := by
    have : ¬ cfG g x x < 0 := fun h => cfG_asym h h
    simp [ltOf, this]
  trans x y z h1 h2 := by simp only [ltOf, decide_eq_true_eq] at *; exact cfG_trans h1 h2
  ntrans x y z h1 h2 := by simp only [ltOf, decide_eq_false_iff_not] at *; exact cfG_ntrans h1 h2
theorem cfG_swoc (g : List UInt8) : SWOc (cfG g) := ⟨fun x h => cfG_asym h h, fun _ _ => cfG_asym, fun _ _ _ => cfG_ntrans⟩
theorem cmpB_app : ∀ {a b : List UInt8} {p q : List UInt8}, a.length = b.length → cmpB (a ++ p) (b ++ q) = if cmpB a b = 0 then cmpB p q else cmpB a b
  | [], [], p, q, _ => by simp [cmpB, Go.Lib.compareBytes]
  | [], _ :: _, _, _, h => by simp at h
  | _ :: _, [], _, _, h => by simp at h
  | x :: a, y :: b, p, q, h => by
    have ih := cmpB_app (a := a) (b := b) (p := p) (q := q) (by simpa using h)
    simp only [cmpB, List.cons_append, Go.Lib.compareBytes] at ih ⊢
    by_cases h1 : x < y
    · simp [h1]
    · by_cases h2 : y < x
      · simp [h1, h2]
      · simp only [h1, h2, if_false]; exact ih
theorem kb_lt {x y : Int} (hx : 0 ≤ x ∧ x < 64) (hy : 0 ≤ y ∧ y < 64) : cmpB [kb x] [kb y] < 0 ↔ x < y := by
  have e : ∀ {z : Int}, 0 ≤ z ∧ z < 64 → (kb z).toNat = z.toNat := fun {z} hz => by
    unfold kb
    rw [UInt8.toNat_ofNat']
    omega
  simp only [cmpB, Go.Lib.compareBytes, UInt8.lt_iff_toNat_lt, e hx, e hy]
  by_cases h1 : x.toNat < y.toNat
  · rw [if_pos h1]; omega
  · rw [if_neg h1]
    by_cases h2 : y.toNat < x.toNat
    · rw [if_pos h2]; omega
    · rw [if_neg h2]; omega
def InR (l : List Int) : Prop := ∀ x ∈ l, 0 ≤ x ∧ x < 64
theorem cG_iff {g : List UInt8} {x y : Int} (hg : g.length = 32) (hx : 0 ≤ x ∧ x < 64) (hy : 0 ≤ y ∧ y < 64) : cG g x y = decide (cfG g x y < 0) := by
  have e : cG g x y = true ↔ cfG g x y < 0 := by
    unfold cG keyS
    rw [bless_iff, cmpB_app (by rw [xorL_len, xorL_len]), cfG_lt]
    split
    · rename_i h0; rw [kb_lt hx hy]; omega
    · rename_i h0; omega
  cases h : cG g x y with
  | true => exact (decide_eq_true (e.1 h)).symm
  | false => exact (decide_eq_false (fun k => by rw [e.2 k] at h; cases h)).symm
theorem insL_congr {c c' : Int → Int → Bool} {n : Int} : ∀ {l : List Int}, (∀ x ∈ l, c n x = c' n x) → insL c n l = insL c' n l
  | [], _ => rfl
  | x :: l, h => by
    unfold insL
    rw [h x (by simp), insL_congr (fun y hy => h y (by simp [hy]))]
def yes : Int → Bool := fun _ => true
theorem sortR_congr {c c' : Int → Int → Bool} {all : List Int} (h : ∀ x ∈ all, ∀ y ∈ all, c x y = c' x y) : ∀ k, k ≤ all.length → sortR c yes all k = sortR c' yes all k
  | 0, _ => rfl
  | k + 1, hk => by
    rw [sortR_s (by omega), sortR_s (by omega), sortR_congr h k (by omega)]
    simp only [yes, if_true]
    have hm : gd all k ∈ all := List.mem_of_getElem? (gd_get (by omega))
    exact insL_congr (fun x hx => h _ hm x (by
      have := (sortR_perm (c := c') (may := yes) (all := all) k (by omega)).mem_iff.1 hx
      exact List.mem_of_mem_take (List.mem_filter.1 this).1))
def srtG (g : List UInt8) (all : List Int) : List Int := sortR (cG g) yes all all.length
theorem srtG_of {g : List UInt8} {all ys : List Int} (hg : g.length = 32) (hr : InR all) (h : SortedBy (cfG g) all ys) : ys = srtG g all := by
  unfold srtG
  rw [sortR_congr (c' := fun x y => decide (cfG g x y < 0)) (fun x hx y hy => cG_iff hg (hr x hx) (hr y hy)) _ (Nat.le_refl _)]
  refine List.Perm.eq_of_pairwise (le := fun x y => ¬ cfG g y x < 0) ?_ h.2 (sortR_rise (cfG_swoc g) (fun x y => by simp) _ (Nat.le_refl _)) (h.1.trans ?_)
  · intro a b _ _ h1 h2
    exact cfG_total h2 h1
  · have := sortR_perm (c := fun x y => decide (cfG g x y < 0)) (may := yes) (all := all) all.length (Nat.le_refl _)
    rw [List.take_length] at this
    refine List.Perm.symm (this.trans ?_)
    rw [List.filter_eq_self.2 (fun _ _ => (rfl : yes _ = true))]
/-! the reference's xor -/
def xorP (x y : List UInt8) (k : Nat) : List UInt8 := (List.zipWith (· ^^^ ·) x y).take k
theorem xorTo_gd {x y : List UInt8} (hx : x.length = 32) (hy : y.length = 32) : ∀ k, k ≤ 32 → ∀ j, j < 32 → gd (xorTo x y k) j = if j < k then gd x j ^^^ gd y j else gd x j
  | 0, _, j, _ => by simp [xorTo]
  | k + 1, hk, j, hj => by
    have ih := xorTo_gd hx hy k (by omega)
    have hl : (xorTo x y k).length = 32 := by rw [xorTo_len]; exact hx
    have e : gd (xorTo x y (k + 1)) j = if j = k then gd (xorTo x y k) k ^^^ gd y k else gd (xorTo x y k) j := by
      have e0 : xorTo x y (k + 1) = (xorTo x y k).set k (gd (xorTo x y k) k ^^^ gd y k) := rfl
      rw [e0]
      unfold gd
      simp only [List.getD_eq_getElem?_getD, List.getElem?_set]
      by_cases e : k = j
      · subst e; simp [hl, hj]
      · simp [e, Ne.symm e]
    rw [e]
    by_cases h1 : j = k
    · subst h1
      rw [if_pos rfl, ih j hj, if_neg (by omega), if_pos (by omega)]
    · rw [if_neg h1, ih j hj]
      by_cases h2 : j < k
      · rw [if_pos h2, if_pos (by omega)]
      · rw [if_neg h2, if_neg (by omega)]
theorem xorL_zip {x y : List UInt8} (hx : x.length = 32) (hy : y.length = 32) : xorL x y = List.zipWith (· ^^^ ·) x y := by
  have hl : (xorL x y).length = 32 := by rw [xorL_len]; exact hx
  refine List.ext_getElem (by simp [hl, hx, hy]) (fun i h1 h2 => ?_)
  have hi : i < 32 := by omega
  have := xorTo_gd hx hy 32 (Nat.le_refl _) i hi
  rw [if_pos hi, xorTo_32] at this
  have e1 : gd (xorL x y) i = (xorL x y)[i] := by simp [gd, h1]
  have e2 : gd x i = x[i] := by simp [gd, show i < x.length by omega]
  have e3 : gd y i = y[i] := by simp [gd, show i < y.length by omega]
  rw [e1, e2, e3] at this
  rw [this, List.getElem_zipWith]
theorem xorP_s {x y : List UInt8} {k : Nat} (hx : x.length = 32) (hy : y.length = 32) (hk : k < 32) : xorP x y (k + 1) = xorP x y k ++ [gd x k ^^^ gd y k] := by
  unfold xorP
  rw [List.take_succ_eq_append_getElem (by simp [hx, hy]; omega), List.getElem_zipWith]
  have e2 : gd x k = x[k]'(by omega) := by simp [gd, show k < x.length by omega]
  have e3 : gd y k = y[k]'(by omega) := by simp [gd, show k < y.length by omega]
  rw [e2, e3]
theorem xorP_end {x y : List UInt8} (hx : x.length = 32) (hy : y.length = 32) : xorP x y 32 = xorL x y := by
  rw [xorL_zip hx hy, xorP, List.take_of_length_le (by simp [hx, hy])]
theorem xorP_len {x y : List UInt8} {k : Nat} (hx : x.length = 32) (hy : y.length = 32) (hk : k ≤ 32) : (xorP x y k).length = k := by simp [xorP, hx, hy]; omega
theorem xor_cancel {g a b : List UInt8} (hg : g.length = 32) (ha : a.length = 32) (hb : b.length = 32) (h : xorL g a = xorL g b) : a = b := by
  rw [xorL_zip hg ha, xorL_zip hg hb] at h
  refine List.ext_getElem (by omega) (fun i h1 h2 => ?_)
  have e : (List.zipWith (· ^^^ ·) g a)[i]'(by simp; omega) = (List.zipWith (· ^^^ ·) g b)[i]'(by simp; omega) := by simp only [h]
  rw [List.getElem_zipWith, List.getElem_zipWith] at e
  have : g[i] ^^^ (g[i] ^^^ a[i]) = g[i] ^^^ (g[i] ^^^ b[i]) := by rw [e]
  simpa [← UInt8.xor_assoc] using this
/-! few: each once -/
def FewI (few : List Int) (lm : List (Int × Int)) (i : Nat) : Prop := few.Nodup ∧ InR few ∧ few.length ≤ i ∧ (∀ k, k ∈ lm.map Prod.fst ↔ k ∈ few) ∧ ∀ k v, (k, v) ∈ lm → 1 ≤ v ∧ v ≤ i
theorem few_0 : FewI [] [] 0 := ⟨List.nodup_nil, (fun x h => nomatch h), Nat.le_refl _, (fun k => Iff.rfl), (fun k v h => nomatch h)⟩
theorem few_vals {few : List Int} {lm : List (Int × Int)} {i : Nat} {n : Int} (h : FewI few lm i) : 0 ≤ (look lm n).getD 0 ∧ (look lm n).getD 0 ≤ i ∧ ((look lm n).getD 0 + 1 = 1 ↔ n ∉ few) := by
  rw [← h.2.2.2.1, ← look_none_iff]
  cases e : look lm n with
  | none => simp
  | some v =>
    have := h.2.2.2.2 n v (mem_of_look e)
    simp; omega
theorem few_put {few : List Int} {lm : List (Int × Int)} {i : Nat} {n : Int} (h : FewI few lm i) : (∀ k v, (k, v) ∈ put lm n ((look lm n).getD 0 + 1) → 1 ≤ v ∧ v ≤ ((i + 1 : Nat) : Int)) := fun k v hm => by
  have hg := few_vals (n := n) h
  by_cases e : look lm n = none
  · rw [put_none e] at hm
    rcases List.mem_append.1 hm with q | q
    · have := h.2.2.2.2 k v q; omega
    · simp [e] at q; omega
  · obtain ⟨u, hu⟩ := Option.ne_none_iff_exists'.1 e
    obtain ⟨j, h1, h2, h3, h4⟩ := lookI_some (i := 0) hu
    rw [h3] at hm
    rcases List.mem_or_eq_of_mem_set hm with q | q
    · have := h.2.2.2.2 k v q; omega
    · injection q with q1 q2
      omega
theorem few_yes {few : List Int} {lm : List (Int × Int)} {i : Nat} {n : Int} (h : FewI few lm i) (hn : 0 ≤ n ∧ n < 64) (h1 : (look lm n).getD 0 + 1 = 1) : FewI (few ++ [n]) (put lm n ((look lm n).getD 0 + 1)) (i + 1) := by
  have hno := (few_vals h).2.2.1 h1
  refine ⟨?_, fun x hx => ?_, by have := h.2.2.1; simp; omega, fun k => ?_, few_put h⟩
  · rw [List.nodup_append]
    refine ⟨h.1, by simp, fun a ha b hb => ?_⟩
    simp at hb; subst hb
    rintro rfl; exact hno ha
  · rcases List.mem_append.1 hx with q | q
    · exact h.2.1 x q
    · simp at q; subst q; exact hn
  · have hk : n ∉ lm.map Prod.fst := fun q => hno ((h.2.2.2.1 n).1 q)
    rw [keys_put, if_neg hk, List.mem_append, h.2.2.2.1, List.mem_append]
theorem few_no {few : List Int} {lm : List (Int × Int)} {i : Nat} {n : Int} (h : FewI few lm i) (h1 : ¬ (look lm n).getD 0 + 1 = 1) : FewI few (put lm n ((look lm n).getD 0 + 1)) (i + 1) := by
  have hno : n ∈ few := by
    have := (few_vals (n := n) h).2.2
    by_cases q : n ∈ few
    · exact q
    · exact absurd (this.2 q) h1
  refine ⟨h.1, h.2.1, by have := h.2.2.1; omega, fun k => ?_, few_put h⟩
  have hk : n ∈ lm.map Prod.fst := (h.2.2.2.1 n).2 hno
  rw [keys_put, if_pos hk, h.2.2.2.1]
theorem nm_set (s : List UInt8) : SetAt ((List.replicate 32 (0 : UInt8)).map Y) 0 ((s.take (Nat.min s.length 32)).map Y) ((nmF s).map Y) := by
  have hm : Nat.min s.length 32 ≤ 32 := Nat.min_le_right _ _
  have hm2 : Nat.min s.length 32 ≤ s.length := Nat.min_le_left _ _
  have hl : (s.take (Nat.min s.length 32)).length = Nat.min s.length 32 := by rw [List.length_take]; omega
  refine ⟨by simp; omega, ?_⟩
  rw [nmF, List.take_zero, List.nil_append, Nat.zero_add, List.length_map, hl, ← List.map_drop, ← List.map_append, List.drop_replicate]
  congr 1
  by_cases h : s.length ≤ 32
  · have e : Nat.min s.length 32 = s.length := Nat.min_eq_left h
    rw [e, List.take_of_length_le h, List.take_length]
  · have e : Nat.min s.length 32 = 32 := Nat.min_eq_right (by omega)
    rw [e, show 32 - s.length = 0 by omega, Nat.sub_self]
theorem take_same {xs ys : List Int} {j : Nat} (h : xs.take j = ys.take j) (hx : j < xs.length) (hy : j < ys.length) (e : gd xs j = gd ys j) : xs.take (j + 1) = ys.take (j + 1) := by
  rw [take_gd hx, take_gd hy, h, e]
theorem sz3 : Sz Try.prog 3 1 := fun w => by kernel_rfl
theorem sc3 : Sc Try.prog 3 := fun w => ⟨by kernel_rfl, by kernel_rfl⟩
set_option maxHeartbeats 400000 in
theorem isnan_spec {x : Int}  : Spec Try.prog 52 [.int .i64 x] [] [] (fun v D' M' => v = .bool false ∧ D' = [] ∧ M' = []) := by
  refine Spec.intro (n := 6) Try.func52 rfl rfl (by decide) (Nat.le_of_ble_eq_true rfl) rfl (fun _ => qA) (fun _ => qA) ?_
  intro σ D M
  refine T.seq ?_
  refine T.region ?_
  refine L.assign rfl rfl ?_
  refine L.nil ?_
  refine T.thenN ?_
  refine T.seq ?_
  refine T.region ?_
  refine L.move rfl rfl ?_
  refine L.move rfl rfl ?_
  refine L.neI rfl rfl rfl ?_
  refine L.assign rfl rfl ?_
  refine L.nil ?_
  refine T.thenN ?_
  refine T.ret ?_
  exact T.ret1 rfl rfl ⟨congrArg Value.bool (by simp), rfl, rfl⟩ qD qF
set_option maxHeartbeats 400000 in
theorem compare_spec {x y : Int}  : Spec Try.prog 40 [.int .i64 x, .int .i64 y] [] [] (fun v D' M' => v = .int .i64 (cmpI x y) ∧ D' = [] ∧ M' = []) := by
  refine Spec.intro (n := 20) Try.func40 rfl rfl (by decide) (Nat.le_of_ble_eq_true rfl) rfl (fun _ => qA) (fun _ => qA) ?_
  intro σ D M
  refine T.seq ?_
  refine T.region ?_
  refine L.assign rfl rfl ?_
  refine L.nil ?_
  refine T.thenN ?_
  refine T.seq ?_
  refine T.region ?_
  refine L.move rfl rfl ?_
  refine L.callF rfl (evs.cons rfl <| evs.nil) qD qS (isnan_spec ) (by rintro u D1 M1 ⟨rfl, rfl, rfl⟩; exact ⟨rfl, _, qA, qF⟩) ?_
  refine L.assign rfl rfl ?_
  refine L.nil ?_
  refine T.thenN ?_
  refine T.seq ?_
  refine T.region ?_
  refine L.move rfl rfl ?_
  refine L.callF rfl (evs.cons rfl <| evs.nil) qD qS (isnan_spec ) (by rintro u D1 M1 ⟨rfl, rfl, rfl⟩; exact ⟨rfl, _, qA, qF⟩) ?_
  refine L.assign rfl rfl ?_
  refine L.nil ?_
  refine T.thenN ?_
  refine T.seq ?_
  refine T.seq ?_
  refine T.region ?_
  refine L.move rfl rfl ?_
  refine L.nil ?_
  refine T.thenN ?_
  refine T.condF rfl rfl ?_
  refine T.skip ?_
  refine T.thenN ?_
  refine T.seq ?_
  refine T.seq ?_
  refine T.region ?_
  refine L.move rfl rfl ?_
  refine L.nil ?_
  refine T.thenN ?_
  refine T.condF rfl rfl ?_
  refine T.skip ?_
  refine T.thenN ?_
  refine T.seq ?_
  refine T.seq ?_
  refine T.region ?_
  refine L.move rfl rfl ?_
  refine L.move rfl rfl ?_
  refine L.ltI rfl rfl rfl ?_
  refine L.nil ?_
  refine T.thenN ?_
  refine T.cond rfl (fun h16 => ?_) (fun h16 => ?_)
  · try simp only [decide_eq_true_eq, decide_eq_false_iff_not, Bool.not_eq_true', Bool.not_eq_false', Bool.and_eq_true, Bool.or_eq_true] at h16
    refine T.seq ?_
    refine T.region ?_
    refine L.assign rfl rfl ?_
    refine L.nil ?_
    refine T.thenN ?_
    refine T.ret ?_
    refine T.thenR ?_
    exact T.ret1 rfl rfl ⟨by rw [cmpI, if_pos h16], rfl, rfl⟩ qD qF
  · try simp only [decide_eq_true_eq, decide_eq_false_iff_not, Bool.not_eq_true', Bool.not_eq_false', Bool.and_eq_true, Bool.or_eq_true] at h16
    refine T.skip ?_
    refine T.thenN ?_
    refine T.seq ?_
    refine T.seq ?_
    refine T.region ?_
    refine L.move rfl rfl ?_
    refine L.move rfl rfl ?_
    refine L.gtI rfl rfl rfl ?_
    refine L.nil ?_
    refine T.thenN ?_
    refine T.cond rfl (fun h19 => ?_) (fun h19 => ?_)
    · try simp only [decide_eq_true_eq, decide_eq_false_iff_not, Bool.not_eq_true', Bool.not_eq_false', Bool.and_eq_true, Bool.or_eq_true] at h19
      refine T.seq ?_
      refine T.region ?_
      refine L.assign rfl rfl ?_
      refine L.nil ?_
      refine T.thenN ?_
      refine T.ret ?_
      refine T.thenR ?_
      exact T.ret1 rfl rfl ⟨by rw [cmpI, if_neg h16, if_pos h19], rfl, rfl⟩ qD qF
    · try simp only [decide_eq_true_eq, decide_eq_false_iff_not, Bool.not_eq_true', Bool.not_eq_false', Bool.and_eq_true, Bool.or_eq_true] at h19
      refine T.skip ?_
      refine T.thenN ?_
      refine T.seq ?_
      refine T.region ?_
      refine L.assign rfl rfl ?_
      refine L.nil ?_
      refine T.thenN ?_
      refine T.ret ?_
      exact T.ret1 rfl rfl ⟨by rw [cmpI, if_neg h16, if_neg h19], rfl, rfl⟩ qD qF
set_option maxHeartbeats 400000 in
theorem or_spec {a : Option Addr} {len cap : Nat} {xs : List Int} (hb : len ≤ 4611686018427387904) : Spec Try.prog 36 [.slice a len cap] [rsl 1 a len cap (xs.map e3)] [] (fun v D' M' => v = .int .i64 (orF xs) ∧ D' = [] ∧ M' = []) := by
  refine Spec.intro (n := 18) Try.func36 rfl rfl (by decide) (Nat.le_of_ble_eq_true rfl) rfl (fun _ => qA) (fun _ => qA) ?_
  intro σ D M
  refine T.rslLen2 qM (fun hl hc => ?_)
  rw [List.length_map] at hl
  refine T.seq ?_
  refine T.region ?_
  refine L.assign rfl rfl ?_
  refine L.nil ?_
  refine T.thenN ?_
  refine T.seq ?_
  refine T.region ?_
  refine L.assign rfl rfl ?_
  refine L.nil ?_
  refine T.thenN ?_
  refine T.seq ?_
  refine T.seq ?_
  refine T.region ?_
  refine L.move rfl rfl ?_
  refine L.lenSl rfl Try.underlying22 rfl ?_
  refine L.move rfl rfl ?_
  refine L.nil ?_
  refine T.thenN ?_
  refine T.block ?_
  refine T.loop (fun K' D' M' μ => ∃ (k : Nat), (k ≤ len ∧ orF xs = orF (xs.drop k)) ∧ K' = [(8, .int .i64 k)] ∧ D' = [] ∧ M' = [] ∧ μ = len - k) (.cons (t := 3) rfl <| .cons (t := 6) rfl <| .cons (t := 7) rfl <| SubK.nil _) (⟨0, ⟨by omega, by simp⟩, rfl, rfl, rfl, rfl⟩) (.cons (t := 8) rfl <| SubK.nil _) qD qS ?_
  rintro K1 D1 M1 m1 ⟨k, ⟨hk, ho⟩, rfl, rfl, rfl, rfl⟩
  refine T.norm3 qA qA qA ?_
  refine T.seq ?_
  refine T.region ?_
  refine L.ltI rfl rfl rfl ?_
  refine L.nil ?_
  refine T.thenN ?_
  refine T.seq ?_
  refine T.cond rfl (fun h9 => ?_) (fun h9 => ?_)
  · try simp only [decide_eq_true_eq, decide_eq_false_iff_not, Bool.not_eq_true', Bool.not_eq_false', Bool.and_eq_true, Bool.or_eq_true] at h9
    refine T.skip ?_
    refine T.thenN ?_
    refine T.seq ?_
    refine T.block ?_
    refine T.seq ?_
    refine T.region ?_
    have hgd : xs[k]? = some (gd xs k) := gd_get (by omega)
    refine L.idx (i := k) rfl Try.underlying22 sz3 rfl rfl qM (by first | rfl | omega | (simp; done)) qG (fun b10 o10 => ?_)
    refine L.load rfl sc3 rfl qC ?_
    refine L.assign rfl rfl ?_
    refine L.nil ?_
    refine T.thenN ?_
    refine T.seq ?_
    refine T.region ?_
    refine L.move rfl rfl ?_
    refine L.move rfl rfl ?_
    refine L.neI rfl rfl rfl ?_
    refine L.nil ?_
    refine T.thenN ?_
    refine T.cond rfl (fun h14 => ?_) (fun h14 => ?_)
    · try simp only [decide_eq_true_eq, decide_eq_false_iff_not, Bool.not_eq_true', Bool.not_eq_false', Bool.and_eq_true, Bool.or_eq_true] at h14
      refine T.seq ?_
      refine T.region ?_
      refine L.move rfl rfl ?_
      refine L.assign rfl rfl ?_
      refine L.nil ?_
      refine T.thenN ?_
      refine T.ret ?_
      refine T.blkR ?_
      refine T.thenR ?_
      refine T.thenR ?_
      refine T.blkR ?_
      refine T.thenR ?_
      exact T.ret1 rfl rfl ⟨by rw [ho, orF_drop (by omega), if_pos h14], rfl, rfl⟩ qD qF
    · try simp only [decide_eq_true_eq, decide_eq_false_iff_not, Bool.not_eq_true', Bool.not_eq_false', Bool.and_eq_true, Bool.or_eq_true] at h14
      refine T.skip ?_
      refine T.blkN ?_
      refine T.thenN ?_
      refine T.region ?_
      refine L.addN rfl rfl rfl (by omega) ?_
      refine L.move rfl rfl ?_
      refine L.nil ?_
      refine T.thenN ?_
      exact T.back ⟨k + 1, ⟨by omega, by rw [ho, orF_drop (by omega), if_neg (by simpa using h14)]⟩, rfl, rfl, rfl, rfl⟩ qI (.cons (t := 8) rfl <| SubK.nil _) (.cons (t := 3) rfl <| .cons (t := 6) rfl <| .cons (t := 7) rfl <| SubK.nil _) qD qD qF
  · try simp only [decide_eq_true_eq, decide_eq_false_iff_not, Bool.not_eq_true', Bool.not_eq_false', Bool.and_eq_true, Bool.or_eq_true] at h9
    refine T.exit ?_
    refine T.thenX ?_
    refine T.thenX ?_
    refine T.blkX ?_
    refine T.thenN ?_
    refine T.seq ?_
    refine T.region ?_
    refine L.move rfl rfl ?_
    refine L.assign rfl rfl ?_
    refine L.nil ?_
    refine T.thenN ?_
    refine T.ret ?_
    exact T.ret1 rfl rfl ⟨by rw [ho, List.drop_of_length_le (by omega)]; rfl, rfl, rfl⟩ qD qF
theorem bcx : IsX Try.prog 66 Extern.BytealgCompare.compare := IsX.of Try.func66 (by kernel_rfl) (by kernel_rfl) (by kernel_rfl) (by kernel_rfl)
set_option maxHeartbeats 400000 in
theorem bcmp_spec {a b : Option Addr} {la ca lb cb : Nat} {p q : List UInt8}  : Spec Try.prog 50 [.slice a la ca, .slice b lb cb] [rsl 1 a la ca (p.map yr), rsl 1 b lb cb (q.map yr)] [] (fun v D' M' => v = .int .i64 (cmpB p q) ∧ D' = [] ∧ M' = []) := by
  refine Spec.intro (n := 8) Try.func50 rfl rfl (by decide) (Nat.le_of_ble_eq_true rfl) rfl (fun _ => qA) (fun _ => qA) ?_
  intro σ D M
  refine T.seq ?_
  refine T.region ?_
  refine L.assign rfl rfl ?_
  refine L.nil ?_
  refine T.thenN ?_
  refine T.seq ?_
  refine T.region ?_
  refine L.move rfl rfl ?_
  refine L.move rfl rfl ?_
  refine L.cmpSl bcx rfl (evs.cons rfl <| evs.cons rfl <| evs.nil) qM qM ?_
  refine L.assign rfl rfl ?_
  refine L.nil ?_
  refine T.thenN ?_
  refine T.ret ?_
  exact T.ret1 rfl rfl ⟨rfl, rfl, rfl⟩ qD qF
set_option maxHeartbeats 400000 in
theorem ocmp_spec {x y : List UInt8} (hx : x.length = 32) (hy : y.length = 32) : Spec Try.prog 37 [.agg (x.map Y).toArray, .agg (y.map Y).toArray] [] [] (fun v D' M' => v = .int .i64 (cmpB x y) ∧ D' = [] ∧ M' = []) := by
  refine Spec.intro (n := 8) Try.func37 rfl rfl (by decide) (Nat.le_of_ble_eq_true rfl) rfl (fun _ => qA) (fun _ => qA) ?_
  intro σ D M
  refine T.seq ?_
  refine T.region ?_
  refine L.box rfl rfl rfl (fun b2 => ?_)
  refine L.box rfl rfl rfl (fun b3 => ?_)
  refine L.assign rfl rfl ?_
  refine L.nil ?_
  refine T.toOwn (b := b2) (len := 32) qP (rows := x.map yr) (sz := 1) (yr_flat x) (by simp [hx]) (by simp) ?_
  refine T.ownRsl qP ?_
  refine T.toOwn (b := b3) (len := 32) qP (rows := y.map yr) (sz := 1) (yr_flat y) (by simp [hy]) (by simp) ?_
  refine T.ownRsl qP ?_
  refine T.thenN ?_
  refine T.seq ?_
  refine T.regionQ (by kernel_rfl) (by kernel_rfl) ?_
  refine L.sliceArr rfl Try.underlying27 sz5 rfl Bd.no Bd.no qI qI ?_
  refine L.known (t := 5) (u := .slice (some ⟨b2, 0, none⟩) 32 32) rfl (by first | rfl | simp [cutA, Addr.add]) ?_
  refine L.sliceArr rfl Try.underlying27 sz5 rfl Bd.no Bd.no qI qI ?_
  refine L.known (t := 6) (u := .slice (some ⟨b3, 0, none⟩) 32 32) rfl (by first | rfl | simp [cutA, Addr.add]) ?_
  refine L.callF rfl (evs.cons rfl <| evs.cons rfl <| evs.nil) qD qS (bcmp_spec (p := x) (q := y)) (by rintro u D1 M1 ⟨rfl, rfl, rfl⟩; exact ⟨rfl, _, qA, qF⟩) ?_
  refine L.assign rfl rfl ?_
  refine L.nilQ ?_
  refine T.thenN ?_
  refine T.ret ?_
  exact T.ret1 rfl rfl ⟨rfl, rfl, rfl⟩ qD qF
set_option maxHeartbeats 400000 in
theorem sort1_spec {bg : Nat} {g : List UInt8} (x y : Int) (hg : g.length = 32) : Spec Try.prog 35 [.int .i64 x, .int .i64 y, .pointer (some ⟨bg, 0, none⟩)] [cl bg 27 (g.map Y)] [] (fun v D' M' => v = .int .i64 (cfG g x y) ∧ D' = [] ∧ M' = []) := by
  refine Spec.intro (n := 20) Try.func35 rfl rfl (by decide) (Nat.le_of_ble_eq_true rfl) rfl (fun _ => qA) (fun _ => qA) ?_
  intro σ D M
  have hix := idF_len x
  have hiy := idF_len y
  have hxlx : (xorL g (idF x)).length = 32 := by rw [xorL_len]; exact hg
  have hxly : (xorL g (idF y)).length = 32 := by rw [xorL_len]; exact hg
  refine T.seq ?_
  refine T.region ?_
  refine L.assign rfl rfl ?_
  refine L.nil ?_
  refine T.thenN ?_
  refine T.seq ?_
  refine T.regionA (clsL [0, 1, 0, 0, 0, 1, 0, 2, 2, 1, 1, 2, 2, 2, 1]) (by kernel_rfl) ?_
  refine A.takeP (i := 1) rfl rfl rfl rfl (by kernel_rfl) (by kernel_rfl) (by kernel_rfl) rfl qD ?_
  refine L.move rfl rfl ?_
  refine A.took ?_
  refine A.takeP (i := 5) rfl rfl rfl rfl (by kernel_rfl) (by kernel_rfl) (by kernel_rfl) rfl qD ?_
  refine L.move rfl rfl ?_
  refine A.took ?_
  refine A.takeP (i := 9) rfl rfl rfl rfl (by kernel_rfl) (by kernel_rfl) (by kernel_rfl) rfl qD ?_
  refine L.move rfl rfl ?_
  refine A.took ?_
  refine A.takeP (i := 10) rfl rfl rfl rfl (by kernel_rfl) (by kernel_rfl) (by kernel_rfl) rfl qD ?_
  refine L.move rfl rfl ?_
  refine A.took ?_
  refine A.take (i := 0) rfl rfl rfl rfl (by kernel_rfl) (by kernel_rfl) (by kernel_rfl) (by kernel_rfl) rfl qD qF ?_
  refine L.loadA rfl ag27 rfl qN ?_
  refine A.took ?_
  refine A.take (i := 4) rfl rfl rfl rfl (by kernel_rfl) (by kernel_rfl) (by kernel_rfl) (by kernel_rfl) rfl qD qF ?_
  refine L.loadA rfl ag27 rfl qN ?_
  refine A.took ?_
  refine A.branch (is := [2]) (by kernel_rfl) (by decide) (Each.cons rfl ?_ <| Each.nil) 
  refine L.callF rfl (evs.cons rfl <| evs.nil) qD qS (bid_spec) (by rintro u D1 M1 ⟨rfl, rfl, rfl⟩; exact ⟨rfl, _, qA, qF⟩) ?_
  refine A.back rfl qD qF ?_
  refine A.branch (is := [3]) (by kernel_rfl) (by decide) (Each.cons rfl ?_ <| Each.nil) 
  refine L.callF rfl (evs.cons rfl <| evs.cons rfl <| evs.nil) qD qS (xor_spec hg hix) (by rintro u D1 M1 ⟨rfl, rfl, rfl⟩; exact ⟨rfl, _, qA, qF⟩) ?_
  refine A.back rfl qD qF ?_
  refine A.branch (is := [6]) (by kernel_rfl) (by decide) (Each.cons rfl ?_ <| Each.nil) 
  refine L.callF rfl (evs.cons rfl <| evs.nil) qD qS (bid_spec) (by rintro u D1 M1 ⟨rfl, rfl, rfl⟩; exact ⟨rfl, _, qA, qF⟩) ?_
  refine A.back rfl qD qF ?_
  refine A.branch (is := [7]) (by kernel_rfl) (by decide) (Each.cons rfl ?_ <| Each.nil) 
  refine L.callF rfl (evs.cons rfl <| evs.cons rfl <| evs.nil) qD qS (xor_spec hg hiy) (by rintro u D1 M1 ⟨rfl, rfl, rfl⟩; exact ⟨rfl, _, qA, qF⟩) ?_
  refine A.backT rfl qD ?_
  refine A.branch (is := [8]) (by kernel_rfl) (by decide) (Each.cons rfl ?_ <| Each.nil) 
  refine L.callF rfl (evs.cons rfl <| evs.cons rfl <| evs.nil) qD qS (ocmp_spec hxlx hxly) (by rintro u D1 M1 ⟨rfl, rfl, rfl⟩; exact ⟨rfl, _, qA, qF⟩) ?_
  refine A.backT rfl qD ?_
  refine A.branch (is := [11]) (by kernel_rfl) (by decide) (Each.cons rfl ?_ <| Each.nil) 
  refine L.callF rfl (evs.cons rfl <| evs.cons rfl <| evs.nil) qD qS (compare_spec ) (by rintro u D1 M1 ⟨rfl, rfl, rfl⟩; exact ⟨rfl, _, qA, qF⟩) ?_
  refine A.backT rfl qD ?_
  refine A.branch (is := [12]) (by kernel_rfl) (by decide) (Each.cons rfl ?_ <| Each.nil) 
  refine L.buildSlice rfl bs22 (by decide) (BP.one rfl rfl rfl <| BP.one rfl rfl rfl <| BP.doneE (out := []) rfl) (fun b18 => ?_)
  refine L.toOwn (len := 2) qP (rows := [cmpB (xorL g (idF x)) (xorL g (idF y)), cmpI x y].map e3) (sz := 1) (by rfl) rfl (by simp) ?_
  refine L.ownRsl qP ?_
  refine A.backT rfl qD ?_
  refine A.branch (is := [13]) (by kernel_rfl) (by decide) (Each.cons rfl ?_ <| Each.nil) 
  refine L.call rfl (evs.cons rfl <| evs.nil) qD qS (or_spec (xs := [cmpB (xorL g (idF x)) (xorL g (idF y)), cmpI x y]) (by omega)) ?_
  rintro _ _ _ ⟨rfl, rfl, rfl⟩
  refine L.norm qA qA ?_
  refine A.backT rfl qD ?_
  refine A.takeP (i := 14) rfl rfl rfl rfl (by kernel_rfl) (by kernel_rfl) (by kernel_rfl) rfl qD ?_
  refine L.assign rfl rfl ?_
  refine A.took ?_
  refine A.done (by kernel_rfl) ?_
  refine T.thenN ?_
  refine T.ret ?_
  exact T.ret1 rfl rfl ⟨rfl, rfl, rfl⟩ qD qF
set_option maxHeartbeats 400000 in
theorem bsort_spec {a : Option Addr} {len cap : Nat} {g : List UInt8} {xs : List Int} (hg : g.length = 32) (hb : len ≤ 100000) : Spec Try.prog 16 [.agg (g.map Y).toArray, .slice a len cap] [rsl 1 a len cap (xs.map e3)] [] (fun v D' M' => ∃ (a' : Option Addr) (cap' : Nat) (ys : List Int), v = .slice a' len cap' ∧ (SortedBy (cfG g) xs ys) ∧ D' = [] ∧ M' = [own 1 3 a' len cap' (ys.map e3)]) := by
  refine Spec.intro (n := 11) Try.func16 rfl rfl (by decide) (Nat.le_of_ble_eq_true rfl) rfl (fun _ => qA) (fun _ => qA) ?_
  intro σ D M
  refine T.seq ?_
  refine T.region ?_
  refine L.box rfl rfl rfl (fun b2 => ?_)
  refine L.assign rfl rfl ?_
  refine L.nil ?_
  refine T.freeze (A := cl b2 27 (g.map Y)) qP ?_
  refine T.thenN ?_
  refine T.seq ?_
  refine T.region ?_
  refine L.move rfl rfl ?_
  refine L.call rfl (evs.cons rfl <| evs.nil) qD qS (clone_spec (by omega)) ?_
  rintro _ _ _ ⟨ka, kl, kc, rfl, hkl, rfl, rfl⟩
  refine L.norm qA qA ?_
  subst hkl
  refine L.assign rfl rfl ?_
  refine L.nil ?_
  refine T.thenN ?_
  refine T.seq ?_
  refine T.region ?_
  refine L.move rfl rfl ?_
  refine L.makeFunc rfl (evs.cons rfl <| evs.nil) ?_
  refine L.call rfl (evs.cons rfl <| evs.cons rfl <| evs.nil) qD qS (sortF_spec (g := 35) (IsFn.of Try.func35 rfl (by decide)) (cfG g) (cfG_swo g) [.pointer (some ⟨b2, 0, none⟩)] (D0 := [cl b2 27 (g.map Y)]) (fun x y => sort1_spec x y hg) (fun φ hφ y z h l => by simp only [List.mem_singleton] at hφ; subst hφ; exact l _ _ h) (by omega)) ?_
  rintro _ _ _ ⟨ys, rfl, hS, rfl, rfl⟩
  refine L.norm qA qA ?_
  refine L.nil ?_
  refine T.thenN ?_
  refine T.seq ?_
  refine T.region ?_
  refine L.move rfl rfl ?_
  refine L.assign rfl rfl ?_
  refine L.nil ?_
  refine T.thenN ?_
  refine T.ret ?_
  exact T.ret1 rfl rfl ⟨_, _, ys, rfl, hS, rfl, rfl⟩ qD qF
set_option maxHeartbeats 400000 in
theorem rxor_spec {x y : List UInt8} (hx : x.length = 32) (hy : y.length = 32) : Spec Try.prog 70 [S x, S y] [] [] (fun v D' M' => v = S (xorL x y) ∧ D' = [] ∧ M' = []) := by
  refine Spec.intro (n := 26) Try.func70 rfl rfl (by decide) (Nat.le_of_ble_eq_true rfl) rfl (fun _ => qA) (fun _ => qA) ?_
  intro σ D M
  refine T.seq ?_
  refine T.region ?_
  refine L.assign rfl rfl ?_
  refine L.nil ?_
  refine T.thenN ?_
  refine T.seq ?_
  refine T.region ?_
  refine L.buildSlice rfl bs69 (by decide) (BP.doneE (out := []) rfl) (fun b7 => ?_)
  refine L.toOwn (len := 0) qP (rows := ([] : List UInt8).map yr) (sz := 1) (by rfl) rfl (by simp) ?_
  refine L.assign rfl rfl ?_
  refine L.nil ?_
  refine T.thenN ?_
  refine T.seq ?_
  refine T.seq ?_
  refine T.region ?_
  refine L.assign rfl rfl ?_
  refine L.nil ?_
  refine T.thenN ?_
  refine T.block ?_
  refine T.ownEq _ ((xorP x y 0).map yr) qP (by simp [xorP]) ?_
  refine T.loop (fun K' D' M' μ => ∃ (i : Nat) (a1 : Option Addr) (c1 : Nat), (i ≤ 32) ∧ K' = [(6, .int .i64 i), (5, .slice a1 i c1)] ∧ D' = [] ∧ M' = [own 1 5 a1 i c1 ((xorP x y i).map yr)] ∧ μ = 32 - i) (.cons (t := 0) rfl <| .cons (t := 1) rfl <| SubK.nil _) (⟨0, _, _, Nat.zero_le _, rfl, rfl, rfl, rfl⟩) (.cons (t := 6) rfl <| .cons (t := 5) rfl <| SubK.nil _) qD qS ?_
  rintro K1 D1 M1 m1 ⟨i, a1, c1, hi, rfl, rfl, rfl, rfl⟩
  refine T.norm3 qA qA qA ?_
  refine T.seq ?_
  refine T.seq ?_
  refine T.region ?_
  refine L.move rfl rfl ?_
  refine L.move rfl rfl ?_
  refine L.lenStr rfl Try.underlying9 rfl ?_
  refine L.ltI rfl rfl rfl ?_
  refine L.nil ?_
  refine T.thenN ?_
  refine T.cond rfl (fun h11 => ?_) (fun h11 => ?_)
  · try simp only [decide_eq_true_eq, decide_eq_false_iff_not, Bool.not_eq_true', Bool.not_eq_false', Bool.and_eq_true, Bool.or_eq_true] at h11
    refine T.skip ?_
    refine T.thenN ?_
    refine T.seq ?_
    refine T.block ?_
    refine T.regionA (clsL [1, 1, 1, 1, 1, 1, 1, 1, 2, 2, 1]) (by kernel_rfl) ?_
    refine A.takeP (i := 0) rfl rfl rfl rfl (by kernel_rfl) (by kernel_rfl) (by kernel_rfl) rfl qD ?_
    refine L.move rfl rfl ?_
    refine A.took ?_
    refine A.takeP (i := 1) rfl rfl rfl rfl (by kernel_rfl) (by kernel_rfl) (by kernel_rfl) rfl qD ?_
    refine L.move rfl rfl ?_
    refine A.took ?_
    refine A.takeP (i := 2) rfl rfl rfl rfl (by kernel_rfl) (by kernel_rfl) (by kernel_rfl) rfl qD ?_
    refine L.move rfl rfl ?_
    refine A.took ?_
    refine A.takeP (i := 3) rfl rfl rfl rfl (by kernel_rfl) (by kernel_rfl) (by kernel_rfl) rfl qD ?_
    refine L.indexS (i := i) rfl Try.underlying9 rfl rfl (by first | rfl | omega | (simp; done)) (gd_get (by omega)) ?_
    refine A.took ?_
    refine A.takeP (i := 4) rfl rfl rfl rfl (by kernel_rfl) (by kernel_rfl) (by kernel_rfl) rfl qD ?_
    refine L.move rfl rfl ?_
    refine A.took ?_
    refine A.takeP (i := 5) rfl rfl rfl rfl (by kernel_rfl) (by kernel_rfl) (by kernel_rfl) rfl qD ?_
    refine L.move rfl rfl ?_
    refine A.took ?_
    refine A.takeP (i := 6) rfl rfl rfl rfl (by kernel_rfl) (by kernel_rfl) (by kernel_rfl) rfl qD ?_
    refine L.indexS (i := i) rfl Try.underlying9 rfl rfl (by first | rfl | omega | (simp; done)) (gd_get (by omega)) ?_
    refine A.took ?_
    refine A.takeP (i := 7) rfl rfl rfl rfl (by kernel_rfl) (by kernel_rfl) (by kernel_rfl) rfl qD ?_
    refine L.xorI rfl rfl rfl ?_
    rw [xorY_s]
    refine A.took ?_
    refine A.branch (is := [8]) (by kernel_rfl) (by decide) (Each.cons rfl ?_ <| Each.nil) 
    refine L.buildSlice rfl bs69 (by decide) (BP.one rfl rfl rfl <| BP.doneE (out := []) rfl) (fun b22 => ?_)
    refine A.backT rfl qD ?_
    refine A.branch (is := [9]) (by kernel_rfl) (by decide) (Each.cons rfl ?_ <| Each.nil) 
    refine L.append1 rfl Try.underlying69 el5 rfl rfl qP qM rfl qO1 qI qI (fun a23 c23 => ?_)
    refine A.backT rfl qD ?_
    refine A.takeP (i := 10) rfl rfl rfl rfl (by kernel_rfl) (by kernel_rfl) (by kernel_rfl) rfl qD ?_
    refine L.assign rfl rfl ?_
    refine A.took ?_
    refine A.done (by kernel_rfl) ?_
    refine T.blkN ?_
    refine T.thenN ?_
    refine T.region ?_
    refine L.move rfl rfl ?_
    refine L.addN rfl rfl rfl (by omega) ?_
    refine L.assign rfl rfl ?_
    refine L.nil ?_
    refine T.thenN ?_
    refine T.ownEq a23 ((xorP x y (i + 1)).map yr) qP (by rw [xorP_s hx hy (by omega), map_snoc]; rfl) ?_
    exact T.back ⟨i + 1, _, _, qT, rfl, rfl, rfl, rfl⟩ qI (.cons (t := 6) rfl <| .cons (t := 5) rfl <| SubK.nil _) (.cons (t := 0) rfl <| .cons (t := 1) rfl <| SubK.nil _) qD qD qF
  · try simp only [decide_eq_true_eq, decide_eq_false_iff_not, Bool.not_eq_true', Bool.not_eq_false', Bool.and_eq_true, Bool.or_eq_true] at h11
    obtain rfl : i = 32 := by omega
    refine T.ownEq a1 ((xorL x y).map yr) qP (by rw [xorP_end hx hy]) ?_
    refine T.ownRsl qP ?_
    refine T.exit ?_
    refine T.thenX ?_
    refine T.thenX ?_
    refine T.blkX ?_
    refine T.thenN ?_
    refine T.seq ?_
    refine T.region ?_
    refine L.move rfl rfl ?_
    refine L.bytesStr rfl Try.underlying69 Try.underlying5 Try.underlying9 rfl qM ?_
    refine L.assign rfl rfl ?_
    refine L.nil ?_
    refine T.thenN ?_
    refine T.ret ?_
    exact T.ret1 rfl rfl ⟨rfl, rfl, rfl⟩ qD qF
set_option maxHeartbeats 400000 in
theorem name_spec {s : List UInt8}  : Spec Try.prog 12 [S s] [] [] (fun v D' M' => v = .agg ((nmF s).map Y).toArray ∧ D' = [] ∧ M' = []) := by
  refine Spec.intro (n := 8) Try.func12 rfl rfl (by decide) (Nat.le_of_ble_eq_true rfl) rfl (fun _ => qA) (fun _ => qA) ?_
  intro σ D M
  have hnl := nmF_len s
  refine T.seq ?_
  refine T.region ?_
  refine L.alloc rfl ze27 (fun b2 => ?_)
  refine L.nil ?_
  refine T.thenN ?_
  refine T.seq ?_
  refine T.region ?_
  refine L.alloc rfl ze27 (fun b3 => ?_)
  refine L.nil ?_
  refine T.thenN ?_
  refine T.seq ?_
  refine T.region ?_
  refine L.sliceArr rfl Try.underlying27 sz5 rfl Bd.no Bd.no qI qI ?_
  refine L.known (t := 4) (u := .slice (some ⟨b3, 0, none⟩) 32 32) rfl (by first | rfl | simp [cutA, Addr.add]) ?_
  refine L.move rfl rfl ?_
  refine L.copyStr rfl Try.underlying69 sz5 rfl rfl rfl qU (nm_set s) ?_
  refine L.nil ?_
  refine T.thenN ?_
  refine T.seq ?_
  refine T.region ?_
  refine L.loadA rfl ag27 rfl qN ?_
  refine L.storeA ag27 rfl rfl qL qO qU qW ?_
  refine L.nil ?_
  refine T.thenN ?_
  refine T.ret ?_
  exact T.retA rfl ag27 rfl qN ⟨rfl, rfl, rfl⟩ qD qF
end Cv
