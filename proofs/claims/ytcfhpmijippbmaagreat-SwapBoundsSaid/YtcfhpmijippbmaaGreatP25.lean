/-
  The walks: the reference's minds.
-/
import Derived.Test.YtcfhpmijippbmaaGreatN25
import Derived.Test.YtcfhpmijippbmaaGreatRH25
import Derived.Test.YtcfhpmijippbmaaGreatProg
import Derived.KernelRfl
set_option linter.unusedVariables false
set_option linter.unusedSimpArgs false
set_option linter.unusedSectionVars false
set_option maxRecDepth 10000
namespace Cv
open Go Go.Proofs
def zR : PF := (0, [], [])
@[reducible] def rrow (x : Int × Mind) : List Value := [.int .i64 x.1, .int .i64 x.2.1, .int .i64 x.2.2.1, .int .i64 x.2.2.2.1, .bool x.2.2.2.2.isSome, .int .i64 (x.2.2.2.2.getD zR).1, S (x.2.2.2.2.getD zR).2.1, S (x.2.2.2.2.getD zR).2.2]
def atM (l : List (Int × Mind)) (n : Int) : Mind := (look l n).getD zM
def setL (l : List (Int × Mind)) (n : Int) (m : Mind) : List (Int × Mind) := l.filter (fun p => decide (p.1 ≠ n)) ++ [(n, m)]
def banL (l : List (Int × Mind)) (n : Int) (p : PF) : List (Int × Mind) := if oidF p.1 p.2.2 = p.2.1 then l else setL l n (banM (atM l n) p)
theorem drop_step {α β : Type} [DecidableEq α] {l : List (α × β)} {k : Nat} {p : α × β} {n : α} (h : l[k]? = some p) (hn : ¬ p.1 = n) : look (l.drop k) n = look (l.drop (k + 1)) n := by
  have hk : k < l.length := (List.getElem?_eq_some_iff.1 h).1
  rw [List.drop_eq_getElem_cons hk]
  have : l[k] = p := (List.getElem?_eq_some_iff.1 h).2
  rw [this]
  obtain ⟨a, b⟩ := p
  simp only [look, if_neg hn]
theorem drop_hit {α β : Type} [DecidableEq α] {l : List (α × β)} {k : Nat} {p : α × β} {n : α} (h : l[k]? = some p) (hn : p.1 = n) : look (l.drop k) n = some p.2 := by
  have hk : k < l.length := (List.getElem?_eq_some_iff.1 h).1
  rw [List.drop_eq_getElem_cons hk]
  have : l[k] = p := (List.getElem?_eq_some_iff.1 h).2
  rw [this]
  obtain ⟨a, b⟩ := p
  simp only at hn
  simp [look, hn]
theorem fil_no {l : List (Int × Mind)} {k : Nat} {p : Int × Mind} {n : Int} (h : l[k]? = some p) (hn : ¬ p.1 ≠ n) : (l.take (k + 1)).filter (fun p => decide (p.1 ≠ n)) = (l.take k).filter (fun p => decide (p.1 ≠ n)) := by
  rw [List.take_add_one, h, List.filter_append]
  simp at hn
  simp [hn]
theorem fil_yes {l : List (Int × Mind)} {k : Nat} {p : Int × Mind} {n : Int} (h : l[k]? = some p) (hn : p.1 ≠ n) : (l.take (k + 1)).filter (fun p => decide (p.1 ≠ n)) = (l.take k).filter (fun p => decide (p.1 ≠ n)) ++ [p] := by
  rw [List.take_add_one, h, List.filter_append]
  simp [hn]
theorem fil_len {l : List (Int × Mind)} {n : Int} (k : Nat) : ((l.take k).filter (fun p => decide (p.1 ≠ n))).length ≤ k := Nat.le_trans (List.length_filter_le _ _) (by rw [List.length_take]; omega)
theorem setL_len {l : List (Int × Mind)} {n : Int} {m : Mind} : (setL l n m).length ≤ l.length + 1 := by
  unfold setL
  have := List.length_filter_le (fun p : Int × Mind => decide (p.1 ≠ n)) l
  simp only [List.length_append, List.length_singleton]; omega
theorem banL_len {l : List (Int × Mind)} {n : Int} {p : PF} : (banL l n p).length ≤ l.length + 1 := by
  unfold banL; split
  · omega
  · exact setL_len
theorem look_fil {l : List (Int × Mind)} {n k : Int} : look (l.filter (fun p => decide (p.1 ≠ n))) k = if k = n then none else look l k := by
  induction l with
  | nil => simp [look]
  | cons p l ih =>
    obtain ⟨a, b⟩ := p
    by_cases e : a = n
    · subst e
      simp only [ne_eq, not_true_eq_false, decide_false, Bool.false_eq_true, not_false_eq_true, List.filter_cons_of_neg, ih, look]
      by_cases e2 : k = a
      · simp [e2]
      · simp [e2, Ne.symm e2]
    · rw [List.filter_cons_of_pos (by simpa using e)]
      simp only [look, ih]
      by_cases e2 : a = k
      · subst e2; simp [e]
      · simp [e2]
theorem look_app {l r : List (Int × Mind)} {k : Int} : look (l ++ r) k = match look l k with | some v => some v | none => look r k := by
  induction l with
  | nil => rfl
  | cons p l ih =>
    obtain ⟨a, b⟩ := p
    simp only [List.cons_append, look]
    split
    · rfl
    · exact ih
theorem atM_set {l : List (Int × Mind)} {n k : Int} {m : Mind} : atM (setL l n m) k = updM (atM l) n m k := by
  unfold atM setL updM
  rw [look_app, look_fil]
  by_cases e : k = n
  · subst e; simp [look]
  · simp only [if_neg e, look, Ne.symm e, if_false]
    cases look l k <;> rfl
structure PInv (F : Int → Mind) (l : List (Int × Mind)) (i : Nat) : Prop where
  same : ∀ n, atM l n = F n
  len : l.length ≤ i
theorem pinv_0 : PInv (fun _ => zM) [] 0 := ⟨fun _ => rfl, Nat.le_refl _⟩
theorem pinv_set {F : Int → Mind} {l : List (Int × Mind)} {i : Nat} {n : Int} {m m' : Mind} (h : PInv F l i) (e : m' = m) : PInv (updM F n m) (setL l n m') (i + 1) := by
  refine ⟨fun k => ?_, ?_⟩
  · rw [atM_set, e]
    unfold updM
    split
    · rfl
    · exact h.same k
  · have := h.len
    have := @setL_len l n m'
    omega
theorem pinv_ban {F : Int → Mind} {l : List (Int × Mind)} {i : Nat} {n : Int} {p : PF} (h : PInv F l i) : PInv (banB F n p) (banL l n p) (i + 1) := by
  unfold banB banL
  split
  · exact ⟨h.same, by have := h.len; omega⟩
  · exact pinv_set h (by rw [h.same])
theorem pinv_up {F : Int → Mind} {l : List (Int × Mind)} {i : Nat} (h : PInv F l i) : PInv F l (i + 1) := ⟨h.same, by have := h.len; omega⟩
/-- a number among others, ahead of the first that comes behind it -/
def insL (c : Int → Int → Bool) (n : Int) : List Int → List Int
  | [] => [n]
  | x :: xs => if c n x then n :: x :: xs else x :: insL c n xs
def sortR (c : Int → Int → Bool) (may : Int → Bool) (all : List Int) (k : Nat) : List Int := (all.take k).foldl (fun out n => if may n then insL c n out else out) []
theorem sortR_s {c : Int → Int → Bool} {may : Int → Bool} {all : List Int} {k : Nat} (h : k < all.length) : sortR c may all (k + 1) = if may (gd all k) then insL c (gd all k) (sortR c may all k) else sortR c may all k := by
  unfold sortR
  rw [take_gd h, List.foldl_append]; rfl
theorem insL_perm {c : Int → Int → Bool} {n : Int} : ∀ l, (insL c n l).Perm (n :: l)
  | [] => .refl _
  | x :: xs => by
    unfold insL
    split
    · exact .refl _
    · exact ((insL_perm xs).cons x).trans (List.Perm.swap _ _ _)
theorem sortR_perm {c : Int → Int → Bool} {may : Int → Bool} {all : List Int} : ∀ k, k ≤ all.length → (sortR c may all k).Perm ((all.take k).filter may)
  | 0, _ => by simp [sortR]
  | k + 1, hk => by
    rw [sortR_s (by omega), take_gd (by omega), List.filter_append]
    have ih := sortR_perm (c := c) (may := may) (all := all) k (by omega)
    cases hm : may (gd all k) with
    | true =>
      simp only [if_true, List.filter_cons, hm, List.filter_nil]
      exact (insL_perm _).trans ((List.Perm.cons _ ih).trans (List.perm_append_singleton _ _).symm)
    | false => simpa [hm] using ih
theorem insL_mem {c : Int → Int → Bool} {n y : Int} {l : List Int} (h : y ∈ insL c n l) : y = n ∨ y ∈ l := by
  have := (insL_perm (c := c) (n := n) l).mem_iff.1 h
  simpa using this
def Rise (cf : Int → Int → Int) (l : List Int) : Prop := l.Pairwise (fun x y => ¬ cf y x < 0)
theorem insL_rise {cf : Int → Int → Int} {c : Int → Int → Bool} (hO : SWOc cf) (hc : ∀ x y, c x y = true ↔ cf x y < 0) {n : Int} : ∀ {l : List Int}, Rise cf l → Rise cf (insL c n l)
  | [], _ => by unfold insL Rise; simp
  | x :: xs, h => by
    unfold Rise at h ⊢
    rw [List.pairwise_cons] at h
    unfold insL
    split
    · rename_i hn
      have hlt := (hc n x).1 hn
      refine List.pairwise_cons.2 ⟨fun y hy => ?_, List.pairwise_cons.2 h⟩
      rcases List.mem_cons.1 hy with rfl | hy
      · exact hO.asym _ _ hlt
      · exact hO.ntrans _ _ _ (h.1 y hy) (hO.asym _ _ hlt)
    · rename_i hn
      refine List.pairwise_cons.2 ⟨fun y hy => ?_, insL_rise hO hc h.2⟩
      rcases insL_mem hy with rfl | hy
      · exact fun e => hn ((hc y x).2 e)
      · exact h.1 y hy
theorem sortR_rise {cf : Int → Int → Int} {c : Int → Int → Bool} {may : Int → Bool} {all : List Int} (hO : SWOc cf) (hc : ∀ x y, c x y = true ↔ cf x y < 0) : ∀ k, k ≤ all.length → Rise cf (sortR c may all k)
  | 0, _ => by simp [sortR, Rise]
  | k + 1, hk => by
    rw [sortR_s (by omega)]
    split
    · exact insL_rise hO hc (sortR_rise hO hc k (by omega))
    · exact sortR_rise hO hc k (by omega)
theorem rise_of {cf : Int → Int → Int} {ys : List Int} (h : SortTo cf ys ys.length) : Rise cf ys := by
  unfold Rise
  rw [List.pairwise_iff_getElem]
  intro i j hi hj hij
  have := h i j hij hj
  simpa [gd, hi, hj] using this
def cR (F : Int → Mind) (n x : Int) : Bool := decide ((F x).1 < (F n).1) || (decide ((F n).1 = (F x).1) && decide (n < x))
theorem cR_iff {F : Int → Mind} (x y : Int) : cR F x y = true ↔ cfB F x y < 0 := by
  rw [cfB_lt]; unfold cR; simp; omega
theorem sort_same {F : Int → Mind} {may may' : Int → Bool} {ys few : List Int} (hp : ys.Perm (few.filter may)) (hs : SortTo (cfB F) ys ys.length) (hm : ∀ x, may x = may' x) : ys = sortR (cR F) may' few few.length := by
  have e : may = may' := funext hm
  subst e
  refine List.Perm.eq_of_pairwise (le := fun x y => ¬ cfB F y x < 0) ?_ (rise_of hs) (sortR_rise cfB_swo cR_iff _ (Nat.le_refl _)) (hp.trans ?_)
  · intro a b _ _ h1 h2
    rw [cfB_lt] at h1 h2
    omega
  · have := sortR_perm (c := cR F) (may := may) (all := few) few.length (Nat.le_refl _)
    rw [List.take_length] at this
    exact this.symm
/-- a number is on its way into a list -/
def InsI (c : Int → Int → Bool) (n : Int) (out nx : List Int) (dn : Bool) (j : Nat) : Prop := nx ++ (if dn then out.drop j else insL c n (out.drop j)) = insL c n out
theorem insI_0 {c : Int → Int → Bool} {n : Int} {out : List Int} : InsI c n out [] false 0 := rfl
theorem insI_hit {c : Int → Int → Bool} {n x : Int} {out nx : List Int} {dn : Bool} {j : Nat} (h : InsI c n out nx dn j) (hd : dn = false) (hx : out[j]? = some x) (hc : c n x = true) : InsI c n out (nx ++ [n] ++ [x]) true (j + 1) := by
  subst hd
  unfold InsI at h ⊢
  have hj : j < out.length := (List.getElem?_eq_some_iff.1 hx).1
  have he : out[j] = x := (List.getElem?_eq_some_iff.1 hx).2
  rw [List.drop_eq_getElem_cons hj, he] at h
  rw [← h]
  simp [insL, hc]
theorem insI_no {c : Int → Int → Bool} {n x : Int} {out nx : List Int} {dn : Bool} {j : Nat} (h : InsI c n out nx dn j) (hx : out[j]? = some x) (hc : dn = true ∨ c n x = false) : InsI c n out (nx ++ [x]) dn (j + 1) := by
  unfold InsI at h ⊢
  have hj : j < out.length := (List.getElem?_eq_some_iff.1 hx).1
  have he : out[j] = x := (List.getElem?_eq_some_iff.1 hx).2
  rw [List.drop_eq_getElem_cons hj, he] at h
  rw [← h]
  cases dn with
  | true => simp
  | false =>
    have : c n x = false := by simpa using hc
    simp [insL, this]
theorem insI_endT {c : Int → Int → Bool} {n : Int} {out nx : List Int} {dn : Bool} (h : InsI c n out nx dn out.length) (hd : dn = false) : nx ++ [n] = insL c n out := by
  subst hd
  unfold InsI at h
  rw [List.drop_length] at h
  simpa [insL] using h
theorem insI_endF {c : Int → Int → Bool} {n : Int} {out nx : List Int} {dn : Bool} (h : InsI c n out nx dn out.length) (hd : dn = true) : nx = insL c n out := by
  subst hd
  unfold InsI at h
  rw [List.drop_length] at h
  simpa using h
theorem sortR_le {c : Int → Int → Bool} {may : Int → Bool} {all : List Int} {k : Nat} (hk : k ≤ all.length) : (sortR c may all k).length ≤ k := by
  have h := (sortR_perm (c := c) (may := may) (all := all) k hk).length_eq
  rw [h]
  exact Nat.le_trans (List.length_filter_le _ _) (by rw [List.length_take]; omega)
theorem zv108 : ∀ w, (zeroValue 108).run Tryz.prog w = .ok (Value.agg #[Value.int .i64 0, Value.int .i64 0, Value.int .i64 0, Value.int .i64 0, Value.bool false, Value.int .i64 0, S [], S []]) w := fun w => by kernel_rfl
theorem ze108 : Ze Tryz.prog 108 [Value.int .i64 0, Value.int .i64 0, Value.int .i64 0, Value.int .i64 0, Value.bool false, Value.int .i64 0, S [], S []] := ⟨_, rfl, zv108⟩
theorem sz108 : Sz Tryz.prog 108 8 := fun w => by kernel_rfl
theorem ag108 : Ag Tryz.prog 108 8 := fun w => ⟨by kernel_rfl, by kernel_rfl⟩
theorem fo108_0 : Fo Tryz.prog 108 0 0 := fun a w => by kernel_rfl
theorem bu108 : Bu Tryz.prog 108 [Value.int .i64 0, Value.int .i64 0, Value.int .i64 0, Value.int .i64 0, Value.bool false, Value.int .i64 0, S [], S []] (fun (i : Nat) => ([(0, 1), (1, 1), (2, 1), (3, 1), (4, 1), (5, 3)] : List (Nat × Nat))[i]?) := bu_of Tryz.underlying108 zv108 rfl (fun w => by kernel_rfl)
theorem bs32 : Bs Tryz.prog 32 108 8 [Value.int .i64 0, Value.int .i64 0, Value.int .i64 0, Value.int .i64 0, Value.bool false, Value.int .i64 0, S [], S []] := bs_of Tryz.underlying32 (fun w => by kernel_rfl) zv108 rfl rfl (by decide)
theorem el108 : El Tryz.prog 108 8 80 := ⟨_, _, rfl, rfl, by kernel_rfl, by kernel_rfl, by kernel_rfl⟩
theorem fo108_1 : Fo Tryz.prog 108 1 1 := fun a w => by kernel_rfl
theorem fo108_2 : Fo Tryz.prog 108 2 2 := fun a w => by kernel_rfl
theorem fo108_3 : Fo Tryz.prog 108 3 3 := fun a w => by kernel_rfl
theorem fo106_0 : Fo Tryz.prog 106 0 0 := fun a w => by kernel_rfl
theorem fo106_2 : Fo Tryz.prog 106 2 2 := fun a w => by kernel_rfl
theorem fo106_1 : Fo Tryz.prog 106 1 1 := fun a w => by kernel_rfl
theorem ag106 : Ag Tryz.prog 106 3 := fun w => ⟨by kernel_rfl, by kernel_rfl⟩
theorem fo108_4 : Fo Tryz.prog 108 4 4 := fun a w => by kernel_rfl
theorem sc4 : Sc Tryz.prog 4 := fun w => ⟨by kernel_rfl, by kernel_rfl⟩
theorem fo108_5 : Fo Tryz.prog 108 5 5 := fun a w => by kernel_rfl
set_option maxHeartbeats 400000 in
theorem rat_spec {a : Option Addr} {len cap : Nat} {l : List (Int × Mind)} {n : Int} (hb : l.length ≤ 1000) : Spec Tryz.prog 32 [.slice a len cap, .int .i64 n] [rsl 8 a len cap ((l).map rrow)] [] (fun v D' M' => v = .agg (rrow (n, atM l n)).toArray ∧ D' = [] ∧ M' = []) := by
  refine Spec.intro (n := 21) Tryz.func32 rfl rfl (by decide) (Nat.le_of_ble_eq_true rfl) rfl (fun _ => qA) (fun _ => qA) ?_
  intro σ D M
  refine T.rslLen2 qM (fun hl hcp => ?_)
  rw [List.length_map] at hl
  refine T.seq ?_
  refine T.region ?_
  refine L.alloc rfl ze108 (fun b4 => ?_)
  refine L.nil ?_
  refine T.thenN ?_
  refine T.seq ?_
  refine T.seq ?_
  refine T.region ?_
  refine L.move rfl rfl ?_
  refine L.lenSl rfl Tryz.underlying32 rfl ?_
  refine L.move rfl rfl ?_
  refine L.nil ?_
  refine T.thenN ?_
  refine T.block ?_
  refine T.loop (fun K' D' M' μ => ∃ (k : Nat), (k ≤ len ∧ look l n = look (l.drop k) n) ∧ K' = [(9, .int .i64 k)] ∧ D' = [] ∧ M' = [] ∧ μ = len - k) (.cons (t := 1) rfl <| .cons (t := 4) rfl <| .cons (t := 7) rfl <| .cons (t := 8) rfl <| SubK.nil _) (⟨0, ⟨by omega, rfl⟩, rfl, rfl, rfl, rfl⟩) (.cons (t := 9) rfl <| SubK.nil _) qD qS ?_
  rintro K1 D1 M1 m1 ⟨k, ⟨hk, hlk⟩, rfl, rfl, rfl, rfl⟩
  refine T.norm3 qA qA qA ?_
  refine T.seq ?_
  refine T.region ?_
  refine L.ltI rfl rfl rfl ?_
  refine L.nil ?_
  refine T.thenN ?_
  refine T.seq ?_
  refine T.cond rfl (fun h10 => ?_) (fun h10 => ?_)
  · try simp only [decide_eq_true_eq, decide_eq_false_iff_not, Bool.not_eq_true', Bool.not_eq_false', Bool.and_eq_true, Bool.or_eq_true] at h10
    refine T.skip ?_
    refine T.thenN ?_
    refine T.seq ?_
    refine T.block ?_
    refine T.seq ?_
    refine T.region ?_
    obtain ⟨p, hpk⟩ := ex_get (l := l) (k := k) (by omega)
    refine L.idx (i := k) rfl Tryz.underlying32 sz108 rfl rfl qM (by first | rfl | omega | (simp; done)) qG (fun b11 o11 => ?_)
    refine L.loadA rfl ag108 rfl qN ?_
    refine L.alloc rfl ze108 (fun b6 => ?_)
    refine L.storeA ag108 rfl rfl qL qO qU qW ?_
    refine L.nil ?_
    refine T.thenN ?_
    refine T.seq ?_
    refine T.region ?_
    first | refine L.field0 rfl fo108_0 rfl ?_ | refine L.field rfl fo108_0 rfl ?_
    refine L.load rfl sc3 rfl qC ?_
    refine L.move rfl rfl ?_
    refine L.eqI rfl rfl rfl ?_
    refine L.nil ?_
    refine T.thenN ?_
    refine T.cond rfl (fun h16 => ?_) (fun h16 => ?_)
    · try simp only [decide_eq_true_eq, decide_eq_false_iff_not, Bool.not_eq_true', Bool.not_eq_false', Bool.and_eq_true, Bool.or_eq_true] at h16
      refine T.seq ?_
      refine T.region ?_
      refine L.loadA rfl ag108 rfl qN ?_
      refine L.storeA ag108 rfl rfl qL qO qU qW ?_
      refine L.nil ?_
      refine T.thenN ?_
      refine T.ret ?_
      refine T.blkR ?_
      refine T.thenR ?_
      refine T.thenR ?_
      refine T.blkR ?_
      refine T.thenR ?_
      exact T.retA rfl ag108 rfl qN ⟨by rw [atM, hlk, drop_hit hpk h16, ← h16]; rfl, rfl, rfl⟩ qD qF
    · try simp only [decide_eq_true_eq, decide_eq_false_iff_not, Bool.not_eq_true', Bool.not_eq_false', Bool.and_eq_true, Bool.or_eq_true] at h16
      refine T.skip ?_
      refine T.blkN ?_
      refine T.thenN ?_
      refine T.region ?_
      refine L.addN rfl rfl rfl (by omega) ?_
      refine L.move rfl rfl ?_
      refine L.nil ?_
      refine T.thenN ?_
      exact T.back ⟨k + 1, ⟨by omega, by rw [hlk]; exact drop_step hpk h16⟩, rfl, rfl, rfl, rfl⟩ qI (.cons (t := 9) rfl <| SubK.nil _) (.cons (t := 1) rfl <| .cons (t := 4) rfl <| .cons (t := 7) rfl <| .cons (t := 8) rfl <| SubK.nil _) qD qD qF
  · try simp only [decide_eq_true_eq, decide_eq_false_iff_not, Bool.not_eq_true', Bool.not_eq_false', Bool.and_eq_true, Bool.or_eq_true] at h10
    refine T.exit ?_
    refine T.thenX ?_
    refine T.thenX ?_
    refine T.blkX ?_
    refine T.thenN ?_
    refine T.seq ?_
    refine T.region ?_
    refine L.move rfl rfl ?_
    refine L.build rfl bu108 (BP.one rfl rfl rfl <| BP.doneE (out := [Value.int .i64 0, Value.int .i64 0, Value.int .i64 0, Value.bool false, Value.int .i64 0, S [], S []]) rfl) ?_
    refine L.storeA ag108 rfl rfl qL qO qU qW ?_
    refine L.nil ?_
    refine T.thenN ?_
    refine T.ret ?_
    exact T.retA rfl ag108 rfl qN ⟨by rw [atM, hlk, List.drop_of_length_le (by omega)]; rfl, rfl, rfl⟩ qD qF
set_option maxHeartbeats 400000 in
theorem rset_spec {a : Option Addr} {len cap : Nat} {l : List (Int × Mind)} {n : Int} {m : Mind} (hb : l.length ≤ 1000) : Spec Tryz.prog 78 [.slice a len cap, .agg (rrow (n, m)).toArray] [rsl 8 a len cap ((l).map rrow)] [] (fun v D' M' => ∃ (a1 : Option Addr) (l1 c1 : Nat), v = .slice a1 l1 c1 ∧ D' = [rsl 8 a1 l1 c1 ((setL l n m).map rrow)] ∧ M' = []) := by
  refine Spec.intro (n := 29) Tryz.func78 rfl rfl (by decide) (Nat.le_of_ble_eq_true rfl) rfl (fun _ => qA) (fun _ => qA) ?_
  intro σ D M
  refine T.rslLen2 qM (fun hl hcp => ?_)
  rw [List.length_map] at hl
  refine T.seq ?_
  refine T.region ?_
  refine L.box rfl rfl rfl (fun b3 => ?_)
  refine L.assign rfl rfl ?_
  refine L.nil ?_
  refine T.thenN ?_
  refine T.seq ?_
  refine T.region ?_
  refine L.buildSlice rfl bs32 (by decide) (BP.doneE (out := []) rfl) (fun b8 => ?_)
  refine L.toOwn (len := 0) qP (rows := ([] : List (Int × Mind)).map rrow) (sz := 8) (by rfl) rfl (by simp) ?_
  refine L.assign rfl rfl ?_
  refine L.nil ?_
  refine T.thenN ?_
  refine T.seq ?_
  refine T.seq ?_
  refine T.region ?_
  refine L.move rfl rfl ?_
  refine L.lenSl rfl Tryz.underlying32 rfl ?_
  refine L.move rfl rfl ?_
  refine L.nil ?_
  refine T.thenN ?_
  refine T.block ?_
  refine T.loop (fun K' D' M' μ => ∃ (k : Nat) (a1 : Option Addr) (l1 c1 : Nat), (k ≤ len ∧ l1 = ((l.take k).filter (fun p => decide (p.1 ≠ n))).length) ∧ K' = [(11, .int .i64 k), (5, .slice a1 l1 c1)] ∧ D' = [] ∧ M' = [own 8 108 a1 l1 c1 (((l.take k).filter (fun p => decide (p.1 ≠ n))).map rrow)] ∧ μ = len - k) (.cons (t := 3) rfl <| .cons (t := 9) rfl <| .cons (t := 10) rfl <| SubK.nil _) (⟨0, _, _, _, ⟨by omega, by simp⟩, rfl, rfl, rfl, rfl⟩) (.cons (t := 11) rfl <| .cons (t := 5) rfl <| SubK.nil _) qD qS ?_
  rintro K1 D1 M1 m1 ⟨k, a1, l1, c1, ⟨hk, hl1⟩, rfl, rfl, rfl, rfl⟩
  refine T.norm3 qA qA qA ?_
  have hfl := fil_len (l := l) (n := n) k
  rw [← hl1] at hfl
  refine T.seq ?_
  refine T.region ?_
  refine L.ltI rfl rfl rfl ?_
  refine L.nil ?_
  refine T.thenN ?_
  refine T.seq ?_
  refine T.cond rfl (fun h12 => ?_) (fun h12 => ?_)
  · try simp only [decide_eq_true_eq, decide_eq_false_iff_not, Bool.not_eq_true', Bool.not_eq_false', Bool.and_eq_true, Bool.or_eq_true] at h12
    refine T.skip ?_
    refine T.thenN ?_
    refine T.seq ?_
    refine T.block ?_
    refine T.seq ?_
    refine T.region ?_
    obtain ⟨p, hpk⟩ := ex_get (l := l) (k := k) (by omega)
    refine L.idx (i := k) rfl Tryz.underlying32 sz108 rfl rfl qM (by first | rfl | omega | (simp; done)) qG (fun b13 o13 => ?_)
    refine L.loadA rfl ag108 rfl qN ?_
    refine L.alloc rfl ze108 (fun b7 => ?_)
    refine L.storeA ag108 rfl rfl qL qO qU qW ?_
    refine L.nil ?_
    refine T.thenN ?_
    refine T.seq ?_
    refine T.region ?_
    first | refine L.field0 rfl fo108_0 rfl ?_ | refine L.field rfl fo108_0 rfl ?_
    refine L.load rfl sc3 rfl qC ?_
    first | refine L.field0 rfl fo108_0 rfl ?_ | refine L.field rfl fo108_0 rfl ?_
    refine L.load rfl sc3 rfl qC ?_
    refine L.neI rfl rfl rfl ?_
    refine L.nil ?_
    refine T.thenN ?_
    refine T.cond rfl (fun h19 => ?_) (fun h19 => ?_)
    · try simp only [decide_eq_true_eq, decide_eq_false_iff_not, Bool.not_eq_true', Bool.not_eq_false', Bool.and_eq_true, Bool.or_eq_true] at h19
      refine T.region ?_
      refine L.move rfl rfl ?_
      refine L.loadA rfl ag108 rfl qN ?_
      refine L.buildSlice rfl bs32 (by decide) (BP.agg rfl rfl (by first | with_reducible assumption | (simp; done) | (simp only [List.length_map]; with_reducible assumption) | (simp [*]; done) | rfl) (Nat.le_of_ble_eq_true rfl) qR <| BP.doneE (out := []) rfl) (fun b22 => ?_)
      refine L.append1 rfl Tryz.underlying32 el108 rfl rfl qP qM rfl qO1 qI qI (fun a23 c23 => ?_)
      refine L.assign rfl rfl ?_
      refine L.nil ?_
      refine T.blkN ?_
      refine T.thenN ?_
      refine T.region ?_
      refine L.addN rfl rfl rfl (by omega) ?_
      refine L.move rfl rfl ?_
      refine L.nil ?_
      refine T.thenN ?_
      refine T.ownEq a23 (((l.take (k + 1)).filter (fun p => decide (p.1 ≠ n))).map rrow) qP (by rw [fil_yes hpk h19, map_snoc]) ?_
      exact T.back ⟨k + 1, _, _, _, ⟨by omega, by rw [fil_yes hpk h19, List.length_append, ← hl1]; rfl⟩, rfl, rfl, rfl, rfl⟩ qI (.cons (t := 11) rfl <| .cons (t := 5) rfl <| SubK.nil _) (.cons (t := 3) rfl <| .cons (t := 9) rfl <| .cons (t := 10) rfl <| SubK.nil _) qD qD qF
    · try simp only [decide_eq_true_eq, decide_eq_false_iff_not, Bool.not_eq_true', Bool.not_eq_false', Bool.and_eq_true, Bool.or_eq_true] at h19
      have h19 := h19
      refine T.skip ?_
      refine T.blkN ?_
      refine T.thenN ?_
      refine T.region ?_
      refine L.addN rfl rfl rfl (by omega) ?_
      refine L.move rfl rfl ?_
      refine L.nil ?_
      refine T.thenN ?_
      refine T.ownEq a1 (((l.take (k + 1)).filter (fun p => decide (p.1 ≠ n))).map rrow) qP (by rw [fil_no hpk h19]) ?_
      exact T.back ⟨k + 1, _, _, _, ⟨by omega, by rw [fil_no hpk h19]; exact hl1⟩, rfl, rfl, rfl, rfl⟩ qI (.cons (t := 11) rfl <| .cons (t := 5) rfl <| SubK.nil _) (.cons (t := 3) rfl <| .cons (t := 9) rfl <| .cons (t := 10) rfl <| SubK.nil _) qD qD qF
  · try simp only [decide_eq_true_eq, decide_eq_false_iff_not, Bool.not_eq_true', Bool.not_eq_false', Bool.and_eq_true, Bool.or_eq_true] at h12
    obtain rfl : k = len := by omega
    refine T.exit ?_
    refine T.thenX ?_
    refine T.thenX ?_
    refine T.blkX ?_
    refine T.thenN ?_
    refine T.seq ?_
    refine T.region ?_
    refine L.move rfl rfl ?_
    refine L.loadA rfl ag108 rfl qN ?_
    refine L.buildSlice rfl bs32 (by decide) (BP.agg rfl rfl (by first | with_reducible assumption | (simp; done) | (simp only [List.length_map]; with_reducible assumption) | (simp [*]; done) | rfl) (Nat.le_of_ble_eq_true rfl) qR <| BP.doneE (out := []) rfl) (fun b27 => ?_)
    refine L.append1 rfl Tryz.underlying32 el108 rfl rfl qP qM rfl qO1 qI qI (fun a28 c28 => ?_)
    refine L.assign rfl rfl ?_
    refine L.nil ?_
    refine T.ownEq a28 ((setL l n m).map rrow) qP (by rw [setL, map_snoc, List.take_of_length_le (by omega)]) ?_
    refine T.ownRsl qP ?_
    refine T.thenN ?_
    refine T.ret ?_
    exact T.ret1 rfl rfl ⟨_, _, _, rfl, rfl, rfl⟩ qD qF
set_option maxHeartbeats 400000 in
theorem rgood_spec {a : Option Addr} {len cap : Nat} {l : List (Int × Mind)} {n : Int} (hb : l.length ≤ 1000) (hm : MOk (atM l n)) : Spec Tryz.prog 74 [.slice a len cap, .int .i64 n] [rsl 8 a len cap ((l).map rrow)] [] (fun v D' M' => ∃ (a1 : Option Addr) (l1 c1 : Nat), v = .slice a1 l1 c1 ∧ D' = [rsl 8 a1 l1 c1 ((setL l n (goodM (atM l n))).map rrow)] ∧ M' = []) := by
  refine Spec.intro (n := 19) Tryz.func74 rfl rfl (by decide) (Nat.le_of_ble_eq_true rfl) rfl (fun _ => qA) (fun _ => qA) ?_
  intro σ D M
  have hm1 := hm.1
  have hm2 := hm.2.1
  have hm3 := hm.2.2.1
  refine T.seq ?_
  refine T.region ?_
  refine L.assign rfl rfl ?_
  refine L.nil ?_
  refine T.thenN ?_
  refine T.seq ?_
  refine T.region ?_
  refine L.move rfl rfl ?_
  refine L.move rfl rfl ?_
  refine L.callF rfl (evs.cons rfl <| evs.cons rfl <| evs.nil) qD qS (rat_spec hb) (by rintro u D1 M1 ⟨rfl, rfl, rfl⟩; exact ⟨rfl, _, qA, qF⟩) ?_
  refine L.alloc rfl ze108 (fun b5 => ?_)
  refine L.storeA ag108 rfl rfl qL qO qU qW ?_
  refine L.nil ?_
  refine T.clEq b5 [.int .i64 n, .int .i64 (atM l n).1, .int .i64 (atM l n).2.1, .int .i64 (atM l n).2.2.1, .bool (atM l n).2.2.2.isSome, .int .i64 ((atM l n).2.2.2.getD zR).1, S ((atM l n).2.2.2.getD zR).2.1, S ((atM l n).2.2.2.getD zR).2.2] qP rfl ?_
  refine T.thenN ?_
  refine T.seq ?_
  refine T.region ?_
  first | refine L.field0 rfl fo108_1 rfl ?_ | refine L.field rfl fo108_1 rfl ?_
  refine L.load rfl sc3 rfl qC ?_
  refine L.addN rfl rfl rfl (by omega) ?_
  refine L.minI rfl rfl rfl ?_
  first | refine L.field0 rfl fo108_1 rfl ?_ | refine L.field rfl fo108_1 rfl ?_
  refine L.store sc3 rfl rfl rfl qU qE ?_
  refine L.nil ?_
  refine T.thenN ?_
  refine T.seq ?_
  refine T.region ?_
  first | refine L.field0 rfl fo108_2 rfl ?_ | refine L.field rfl fo108_2 rfl ?_
  refine L.store sc3 rfl rfl rfl qU qE ?_
  refine L.nil ?_
  refine T.thenN ?_
  refine T.seq ?_
  refine T.region ?_
  first | refine L.field0 rfl fo108_3 rfl ?_ | refine L.field rfl fo108_3 rfl ?_
  refine L.store sc3 rfl rfl rfl qU qE ?_
  refine L.nil ?_
  refine T.thenN ?_
  refine T.seq ?_
  refine T.region ?_
  refine L.move rfl rfl ?_
  refine L.loadA rfl ag108 rfl qN ?_
  refine L.call rfl (evs.cons rfl <| evs.cons rfl <| evs.nil) qD qS (rset_spec (n := n) (m := goodM (atM l n)) hb) ?_
  rintro _ _ _ ⟨sa, sl, sc, rfl, rfl, rfl⟩
  refine L.norm qA qA ?_
  refine L.assign rfl rfl ?_
  refine L.nil ?_
  refine T.thenN ?_
  refine T.ret ?_
  exact T.ret1 rfl rfl ⟨_, _, _, rfl, rfl, rfl⟩ qD qF
set_option maxHeartbeats 400000 in
theorem rsil_spec {a : Option Addr} {len cap : Nat} {l : List (Int × Mind)} {n : Int} {now : Int} (hb : l.length ≤ 1000) (hm : MOk (atM l n)) (h0 : 0 ≤ now) (h9 : now ≤ 549755813888) : Spec Tryz.prog 57 [.slice a len cap, .int .i64 n, .int .i64 now] [rsl 8 a len cap ((l).map rrow)] [] (fun v D' M' => ∃ (a1 : Option Addr) (l1 c1 : Nat), v = .slice a1 l1 c1 ∧ D' = [rsl 8 a1 l1 c1 ((setL l n (silM (atM l n) now)).map rrow)] ∧ M' = []) := by
  refine Spec.intro (n := 33) Tryz.func57 rfl rfl (by decide) (Nat.le_of_ble_eq_true rfl) rfl (fun _ => qA) (fun _ => qA) ?_
  intro σ D M
  have hm1 := hm.1
  have hm2 := hm.2.1
  have hm3 := hm.2.2.1
  refine T.seq ?_
  refine T.region ?_
  refine L.assign rfl rfl ?_
  refine L.nil ?_
  refine T.thenN ?_
  refine T.seq ?_
  refine T.region ?_
  refine L.move rfl rfl ?_
  refine L.move rfl rfl ?_
  refine L.callF rfl (evs.cons rfl <| evs.cons rfl <| evs.nil) qD qS (rat_spec hb) (by rintro u D1 M1 ⟨rfl, rfl, rfl⟩; exact ⟨rfl, _, qA, qF⟩) ?_
  refine L.alloc rfl ze108 (fun b7 => ?_)
  refine L.storeA ag108 rfl rfl qL qO qU qW ?_
  refine L.nil ?_
  refine T.clEq b7 [.int .i64 n, .int .i64 (atM l n).1, .int .i64 (atM l n).2.1, .int .i64 (atM l n).2.2.1, .bool (atM l n).2.2.2.isSome, .int .i64 ((atM l n).2.2.2.getD zR).1, S ((atM l n).2.2.2.getD zR).2.1, S ((atM l n).2.2.2.getD zR).2.2] qP rfl ?_
  refine T.thenN ?_
  refine T.seq ?_
  refine T.region ?_
  first | refine L.field0 rfl fo108_1 rfl ?_ | refine L.field rfl fo108_1 rfl ?_
  refine L.load rfl sc3 rfl qC ?_
  refine L.subN rfl rfl rfl (by omega) ?_
  refine L.maxI rfl rfl rfl ?_
  first | refine L.field0 rfl fo108_1 rfl ?_ | refine L.field rfl fo108_1 rfl ?_
  refine L.store sc3 rfl rfl rfl qU qE ?_
  refine L.nil ?_
  refine T.thenN ?_
  refine T.seq ?_
  refine T.region ?_
  first | refine L.field0 rfl fo108_2 rfl ?_ | refine L.field rfl fo108_2 rfl ?_
  refine L.load rfl sc3 rfl qC ?_
  refine L.mulN rfl rfl rfl (by omega) ?_
  rw [show (atM l n).2.1 * 2 = 2 * (atM l n).2.1 from Int.mul_comm _ _]
  refine L.maxI rfl rfl rfl ?_
  refine L.minI rfl rfl rfl ?_
  first | refine L.field0 rfl fo108_2 rfl ?_ | refine L.field rfl fo108_2 rfl ?_
  refine L.store sc3 rfl rfl rfl qU qE ?_
  refine L.nil ?_
  refine T.thenN ?_
  refine T.seq ?_
  refine T.region ?_
  first | refine L.field0 rfl fo108_3 rfl ?_ | refine L.field rfl fo108_3 rfl ?_
  refine L.load rfl sc3 rfl qC ?_
  refine L.move rfl rfl ?_
  first | refine L.field0 rfl fo108_2 rfl ?_ | refine L.field rfl fo108_2 rfl ?_
  refine L.load rfl sc3 rfl qC ?_
  refine L.addN rfl rfl rfl (by omega) ?_
  refine L.maxI rfl rfl rfl ?_
  first | refine L.field0 rfl fo108_3 rfl ?_ | refine L.field rfl fo108_3 rfl ?_
  refine L.store sc3 rfl rfl rfl qU qE ?_
  refine L.nil ?_
  refine T.thenN ?_
  refine T.seq ?_
  refine T.region ?_
  refine L.move rfl rfl ?_
  refine L.loadA rfl ag108 rfl qN ?_
  refine L.call rfl (evs.cons rfl <| evs.cons rfl <| evs.nil) qD qS (rset_spec (n := n) (m := silM (atM l n) now) hb) ?_
  rintro _ _ _ ⟨sa, sl, sc, rfl, rfl, rfl⟩
  refine L.norm qA qA ?_
  refine L.assign rfl rfl ?_
  refine L.nil ?_
  refine T.thenN ?_
  refine T.ret ?_
  exact T.ret1 rfl rfl ⟨_, _, _, rfl, rfl, rfl⟩ qD qF
set_option maxHeartbeats 400000 in
theorem rholds_spec {k : Int} {id tx : List UInt8} (htx : tx.length ≤ 35184372088832) : Spec Tryz.prog 90 [.agg [.int .i64 k, S id, S tx].toArray] [] [] (fun v D' M' => v = .bool (!decide (oidF k tx = id)) ∧ D' = [] ∧ M' = []) := by
  refine Spec.intro (n := 11) Tryz.func90 rfl rfl (by decide) (Nat.le_of_ble_eq_true rfl) rfl (fun _ => qA) (fun _ => qA) ?_
  intro σ D M
  refine T.seq ?_
  refine T.region ?_
  refine L.box rfl rfl rfl (fun b1 => ?_)
  refine L.assign rfl rfl ?_
  refine L.nil ?_
  refine T.thenN ?_
  refine T.seq ?_
  refine T.regionQ (by kernel_rfl) (by kernel_rfl) ?_
  first | refine L.field0 rfl fo106_0 rfl ?_ | refine L.field rfl fo106_0 rfl ?_
  refine L.load rfl sc3 rfl qC ?_
  first | refine L.field0 rfl fo106_2 rfl ?_ | refine L.field rfl fo106_2 rfl ?_
  refine L.load rfl sc9 rfl qC ?_
  refine L.callF rfl (evs.cons rfl <| evs.cons rfl <| evs.nil) qD qS (r2of_spec htx) (by rintro u D1 M1 ⟨rfl, rfl, rfl⟩; exact ⟨rfl, _, qA, qF⟩) ?_
  first | refine L.field0 rfl fo106_1 rfl ?_ | refine L.field rfl fo106_1 rfl ?_
  refine L.load rfl sc9 rfl qC ?_
  refine L.neS rfl rfl rfl ?_
  refine L.assign rfl rfl ?_
  refine L.nilQ ?_
  refine T.thenN ?_
  refine T.ret ?_
  exact T.ret1 rfl rfl ⟨rfl, rfl, rfl⟩ qD qF
set_option maxHeartbeats 400000 in
theorem rban_spec {a : Option Addr} {len cap : Nat} {l : List (Int × Mind)} {n k : Int} {id tx : List UInt8} (hb : l.length ≤ 1000) (htx : tx.length ≤ 35184372088832) : Spec Tryz.prog 73 [.slice a len cap, .int .i64 n, .agg [.int .i64 k, S id, S tx].toArray] [rsl 8 a len cap ((l).map rrow)] [] (fun v D' M' => ∃ (a1 : Option Addr) (l1 c1 : Nat), v = .tuple #[.slice a1 l1 c1, .bool (!decide (oidF k tx = id))] ∧ D' = [rsl 8 a1 l1 c1 ((banL l n (k, id, tx)).map rrow)] ∧ M' = []) := by
  refine Spec.intro (n := 25) Tryz.func73 rfl rfl (by decide) (Nat.le_of_ble_eq_true rfl) rfl (fun _ => qA) (fun _ => qA) ?_
  intro σ D M
  refine T.seq ?_
  refine T.region ?_
  refine L.box rfl rfl rfl (fun b5 => ?_)
  refine L.assign rfl rfl ?_
  refine L.assign rfl rfl ?_
  refine L.nil ?_
  refine T.thenN ?_
  refine T.seq ?_
  refine T.seq ?_
  refine T.region ?_
  refine L.loadA rfl ag106 rfl qN ?_
  refine L.callF rfl (evs.cons rfl <| evs.nil) qD qS (rholds_spec htx) (by rintro u D1 M1 ⟨rfl, rfl, rfl⟩; exact ⟨rfl, _, qA, qF⟩) ?_
  refine L.notB rfl rfl ?_
  refine L.nil ?_
  refine T.thenN ?_
  refine T.cond rfl (fun h11 => ?_) (fun h11 => ?_)
  · try simp only [decide_eq_true_eq, decide_eq_false_iff_not, Bool.not_eq_true', Bool.not_eq_false', Bool.and_eq_true, Bool.or_eq_true] at h11
    have ho : oidF k tx = id := by simpa using h11
    refine T.derive (ψ := rsl 8 a len cap ((banL l n (k, id, tx)).map rrow)) (φ := rsl 8 a len cap ((l).map rrow)) qM (fun z h => by rw [banL, if_pos ho]; exact h) ?_
    refine T.seq ?_
    refine T.region ?_
    refine L.move rfl rfl ?_
    refine L.assign rfl rfl ?_
    refine L.assign rfl rfl ?_
    refine L.nil ?_
    refine T.thenN ?_
    refine T.ret ?_
    refine T.thenR ?_
    exact T.ret2 rfl rfl rfl ⟨a, len, cap, by rw [ho]; simp, rfl, rfl⟩ qD qF
  · try simp only [decide_eq_true_eq, decide_eq_false_iff_not, Bool.not_eq_true', Bool.not_eq_false', Bool.and_eq_true, Bool.or_eq_true] at h11
    have ho : ¬ oidF k tx = id := by simpa using h11
    refine T.skip ?_
    refine T.thenN ?_
    refine T.seq ?_
    refine T.region ?_
    refine L.move rfl rfl ?_
    refine L.move rfl rfl ?_
    refine L.callF rfl (evs.cons rfl <| evs.cons rfl <| evs.nil) qD qS (rat_spec hb) (by rintro u D1 M1 ⟨rfl, rfl, rfl⟩; exact ⟨rfl, _, qA, qF⟩) ?_
    refine L.alloc rfl ze108 (fun b8 => ?_)
    refine L.storeA ag108 rfl rfl qL qO qU qW ?_
    refine L.nil ?_
    refine T.clEq b8 [.int .i64 n, .int .i64 (atM l n).1, .int .i64 (atM l n).2.1, .int .i64 (atM l n).2.2.1, .bool (atM l n).2.2.2.isSome, .int .i64 ((atM l n).2.2.2.getD zR).1, S ((atM l n).2.2.2.getD zR).2.1, S ((atM l n).2.2.2.getD zR).2.2] qP rfl ?_
    refine T.thenN ?_
    refine T.seq ?_
    refine T.seq ?_
    refine T.region ?_
    first | refine L.field0 rfl fo108_4 rfl ?_ | refine L.field rfl fo108_4 rfl ?_
    refine L.load rfl sc4 rfl qC ?_
    refine L.notB rfl rfl ?_
    refine L.nil ?_
    refine T.thenN ?_
    refine T.cond rfl (fun h18 => ?_) (fun h18 => ?_)
    · try simp only [decide_eq_true_eq, decide_eq_false_iff_not, Bool.not_eq_true', Bool.not_eq_false', Bool.and_eq_true, Bool.or_eq_true] at h18
      have hq : (atM l n).2.2.2 = none := by
        cases hp : (atM l n).2.2.2 with
        | none => rfl
        | some q => simp [hp] at h18
      refine T.seq ?_
      refine T.region ?_
      first | refine L.field0 rfl fo108_4 rfl ?_ | refine L.field rfl fo108_4 rfl ?_
      refine L.store sc4 rfl rfl rfl qU qE ?_
      refine L.nil ?_
      refine T.thenN ?_
      refine T.region ?_
      refine L.loadA rfl ag106 rfl qN ?_
      first | refine L.field0 rfl fo108_5 rfl ?_ | refine L.field rfl fo108_5 rfl ?_
      refine L.storeA ag106 rfl rfl qL qO qU qW ?_
      refine L.nil ?_
      refine T.thenN ?_
      refine T.seq ?_
      refine T.clEq b8 (rrow (n, banM (atM l n) (k, id, tx))) qP (by simp only [rrow, banM, hq]; rfl) ?_
      refine T.region ?_
      refine L.move rfl rfl ?_
      refine L.loadA rfl ag108 rfl qN ?_
      refine L.call rfl (evs.cons rfl <| evs.cons rfl <| evs.nil) qD qS (rset_spec (n := n) (m := banM (atM l n) (k, id, tx)) hb) ?_
      rintro _ _ _ ⟨sa, sl, sc, rfl, rfl, rfl⟩
      refine L.norm qA qA ?_
      refine L.assign rfl rfl ?_
      refine L.assign rfl rfl ?_
      refine L.nil ?_
      refine T.derive (ψ := rsl 8 sa sl sc ((banL l n (k, id, tx)).map rrow)) (φ := rsl 8 sa sl sc ((setL l n (banM (atM l n) (k, id, tx))).map rrow)) qM (fun z h => by rw [banL, if_neg ho]; exact h) ?_
      refine T.thenN ?_
      refine T.ret ?_
      exact T.ret2 rfl rfl rfl ⟨sa, sl, sc, by rw [show decide (oidF k tx = id) = false from decide_eq_false ho]; rfl, rfl, rfl⟩ qD qF
    · try simp only [decide_eq_true_eq, decide_eq_false_iff_not, Bool.not_eq_true', Bool.not_eq_false', Bool.and_eq_true, Bool.or_eq_true] at h18
      obtain ⟨q, hq⟩ : ∃ q, (atM l n).2.2.2 = some q := by
        cases hp : (atM l n).2.2.2 with
        | none => simp [hp] at h18
        | some q => exact ⟨q, rfl⟩
      refine T.skip ?_
      refine T.thenN ?_
      refine T.seq ?_
      refine T.clEq b8 (rrow (n, banM (atM l n) (k, id, tx))) qP (by simp only [rrow, banM, hq]; rfl) ?_
      refine T.region ?_
      refine L.move rfl rfl ?_
      refine L.loadA rfl ag108 rfl qN ?_
      refine L.call rfl (evs.cons rfl <| evs.cons rfl <| evs.nil) qD qS (rset_spec (n := n) (m := banM (atM l n) (k, id, tx)) hb) ?_
      rintro _ _ _ ⟨sa, sl, sc, rfl, rfl, rfl⟩
      refine L.norm qA qA ?_
      refine L.assign rfl rfl ?_
      refine L.assign rfl rfl ?_
      refine L.nil ?_
      refine T.derive (ψ := rsl 8 sa sl sc ((banL l n (k, id, tx)).map rrow)) (φ := rsl 8 sa sl sc ((setL l n (banM (atM l n) (k, id, tx))).map rrow)) qM (fun z h => by rw [banL, if_neg ho]; exact h) ?_
      refine T.thenN ?_
      refine T.ret ?_
      exact T.ret2 rfl rfl rfl ⟨sa, sl, sc, by rw [show decide (oidF k tx = id) = false from decide_eq_false ho]; rfl, rfl, rfl⟩ qD qF
set_option maxHeartbeats 400000 in
theorem rmay_spec {a : Option Addr} {len cap : Nat} {l : List (Int × Mind)} {n now : Int} (hb : l.length ≤ 1000) : Spec Tryz.prog 34 [.slice a len cap, .int .i64 n, .int .i64 now] [rsl 8 a len cap ((l).map rrow)] [] (fun v D' M' => v = .bool (mayB (atM l) n now) ∧ D' = [] ∧ M' = []) := by
  refine Spec.intro (n := 20) Tryz.func34 rfl rfl (by decide) (Nat.le_of_ble_eq_true rfl) rfl (fun _ => qA) (fun _ => qA) ?_
  intro σ D M
  refine T.seq ?_
  refine T.region ?_
  refine L.assign rfl rfl ?_
  refine L.nil ?_
  refine T.thenN ?_
  refine T.seq ?_
  refine T.region ?_
  refine L.move rfl rfl ?_
  refine L.move rfl rfl ?_
  refine L.callF rfl (evs.cons rfl <| evs.cons rfl <| evs.nil) qD qS (rat_spec hb) (by rintro u D1 M1 ⟨rfl, rfl, rfl⟩; exact ⟨rfl, _, qA, qF⟩) ?_
  refine L.fieldV (off := 4) rfl Tryz.underlying108 rfl sc4 rfl rfl ?_
  refine L.notB rfl rfl ?_
  refine L.move rfl rfl ?_
  refine L.part (t := 12) rfl (fun h1 => ?_) (fun h1 => ?_)
  · try simp only [decide_eq_true_eq, decide_eq_false_iff_not, Bool.not_eq_true', Bool.not_eq_false', Bool.and_eq_true, Bool.or_eq_true] at h1
    refine L.guardT (dj := 12) rfl rfl rfl ?_
    refine L.move rfl rfl ?_
    refine L.guardT (dj := 12) rfl rfl rfl ?_
    refine L.move rfl rfl ?_
    refine L.guardT (dj := 12) rfl rfl rfl ?_
    refine L.move rfl rfl ?_
    refine L.guardT (dj := 12) rfl rfl rfl ?_
    refine L.callF rfl (evs.cons rfl <| evs.cons rfl <| evs.nil) qD qS (rat_spec hb) (by rintro u D1 M1 ⟨rfl, rfl, rfl⟩; exact ⟨rfl, _, qA, qF⟩) ?_
    refine L.guardT (dj := 12) rfl rfl rfl ?_
    refine L.fieldV (off := 3) rfl Tryz.underlying108 rfl sc3 rfl rfl ?_
    refine L.guardT (dj := 12) rfl rfl rfl ?_
    refine L.geI rfl rfl rfl ?_
    refine L.pickT rfl rfl rfl ?_
    refine L.assign rfl rfl ?_
    refine L.nil ?_
    refine T.thenN ?_
    refine T.ret ?_
    exact T.ret1 rfl rfl ⟨by cases hq : (atM l n).2.2.2 <;> simp_all [mayB], rfl, rfl⟩ qD qF
  · try simp only [decide_eq_true_eq, decide_eq_false_iff_not, Bool.not_eq_true', Bool.not_eq_false', Bool.and_eq_true, Bool.or_eq_true] at h1
    refine L.guardF (dj := 12) (c := false) rfl rfl rfl rfl rfl (by decide) ?_
    refine L.guardF (dj := 12) (c := false) rfl rfl rfl rfl rfl (by decide) ?_
    refine L.guardF (dj := 12) (c := false) rfl rfl rfl rfl rfl (by decide) ?_
    refine L.guardF (dj := 12) (c := false) rfl rfl rfl rfl rfl (by decide) ?_
    refine L.guardF (dj := 12) (c := false) rfl rfl rfl rfl rfl (by decide) ?_
    refine L.guardF (dj := 12) (c := false) rfl rfl rfl rfl rfl (by decide) ?_
    refine L.pickF rfl rfl rfl ?_
    refine L.assign rfl rfl ?_
    refine L.nil ?_
    refine T.thenN ?_
    refine T.ret ?_
    exact T.ret1 rfl rfl ⟨by cases hq : (atM l n).2.2.2 <;> simp_all [mayB], rfl, rfl⟩ qD qF
set_option maxHeartbeats 2000000 in
theorem rsort_spec {a : Option Addr} {len cap : Nat} {l : List (Int × Mind)} {now : Int} {aa : Option Addr} {la ca : Nat} {al : List Int} (hb : l.length ≤ 1000) (hb2 : al.length ≤ 1000) : Spec Tryz.prog 62 [.slice a len cap, .int .i64 now, .slice aa la ca] [rsl 8 a len cap ((l).map rrow), rsl 1 aa la ca (al.map e3)] [] (fun v D' M' => ∃ (a1 : Option Addr) (l1 c1 : Nat), v = .slice a1 l1 c1 ∧ (l1 = (sortR (cR (atM l)) (fun x => mayB (atM l) x now) al al.length).length) ∧ D' = [] ∧ M' = [own 1 3 a1 l1 c1 ((sortR (cR (atM l)) (fun x => mayB (atM l) x now) al al.length).map e3)]) := by
  refine Spec.intro (n := 80) Tryz.func62 rfl rfl (by decide) (Nat.le_of_ble_eq_true rfl) rfl (fun _ => qA) (fun _ => qA) ?_
  intro σ D M
  refine T.rslLen2 (rows := al.map e3) qM (fun hl hcp => ?_)
  rw [List.length_map] at hl
  refine T.seq ?_
  refine T.region ?_
  refine L.assign rfl rfl ?_
  refine L.nil ?_
  refine T.thenN ?_
  refine T.seq ?_
  refine T.region ?_
  refine L.buildSlice rfl bs39 (by decide) (BP.doneE (out := []) rfl) (fun b14 => ?_)
  refine L.toOwn (len := 0) qP (rows := ([] : List Int).map e3) (sz := 1) (by rfl) rfl (by simp) ?_
  refine L.assign rfl rfl ?_
  refine L.nil ?_
  refine T.thenN ?_
  refine T.seq ?_
  refine T.seq ?_
  refine T.region ?_
  refine L.move rfl rfl ?_
  refine L.lenSl rfl Tryz.underlying39 rfl ?_
  refine L.move rfl rfl ?_
  refine L.nil ?_
  refine T.thenN ?_
  refine T.block ?_
  refine T.loop (fun K' D' M' μ => ∃ (k : Nat) (a1 : Option Addr) (l1 c1 : Nat), (k ≤ al.length ∧ l1 = (sortR (cR (atM l)) (fun x => mayB (atM l) x now) al k).length) ∧ K' = [(17, .int .i64 k), (7, .slice a1 l1 c1)] ∧ D' = [] ∧ M' = [own 1 3 a1 l1 c1 ((sortR (cR (atM l)) (fun x => mayB (atM l) x now) al k).map e3)] ∧ μ = al.length - k) (.cons (t := 0) rfl <| .cons (t := 1) rfl <| .cons (t := 15) rfl <| .cons (t := 16) rfl <| SubK.nil _) (⟨0, _, _, _, ⟨by omega, rfl⟩, rfl, rfl, rfl, rfl⟩) (.cons (t := 17) rfl <| .cons (t := 7) rfl <| SubK.nil _) qD qS ?_
  rintro K1 D1 M1 m1 ⟨k, a1, l1, c1, ⟨hk, hl1⟩, rfl, rfl, rfl, rfl⟩
  refine T.norm3 qA qA qA ?_
  have hle := sortR_le (c := cR (atM l)) (may := fun x => mayB (atM l) x now) (all := al) hk
  refine T.seq ?_
  refine T.region ?_
  refine L.ltI rfl rfl rfl ?_
  refine L.nil ?_
  refine T.thenN ?_
  refine T.seq ?_
  refine T.cond rfl (fun h18 => ?_) (fun h18 => ?_)
  · try simp only [decide_eq_true_eq, decide_eq_false_iff_not, Bool.not_eq_true', Bool.not_eq_false', Bool.and_eq_true, Bool.or_eq_true] at h18
    refine T.skip ?_
    refine T.thenN ?_
    refine T.seq ?_
    refine T.block ?_
    refine T.seq ?_
    refine T.region ?_
    have hgk : al[k]? = some (gd al k) := gd_get (by omega)
    refine L.idx (i := k) rfl Tryz.underlying39 sz3 rfl rfl qM (by first | rfl | omega | (simp; done)) qG (fun b19 o19 => ?_)
    refine L.load rfl sc3 rfl qC ?_
    refine L.assign rfl rfl ?_
    refine L.nil ?_
    obtain ⟨nn, hnn⟩ : ∃ nn, nn = gd al k := ⟨_, rfl⟩
    rw [← hnn]
    refine T.thenN ?_
    refine T.seq ?_
    refine T.seq ?_
    refine T.region ?_
    refine L.move rfl rfl ?_
    refine L.move rfl rfl ?_
    refine L.move rfl rfl ?_
    refine L.callF rfl (evs.cons rfl <| evs.cons rfl <| evs.cons rfl <| evs.nil) qD qS (rmay_spec hb) (by rintro u D1 M1 ⟨rfl, rfl, rfl⟩; exact ⟨rfl, _, qA, qF⟩) ?_
    refine L.notB rfl rfl ?_
    refine L.nil ?_
    refine T.thenN ?_
    refine T.cond rfl (fun h25 => ?_) (fun h25 => ?_)
    · try simp only [decide_eq_true_eq, decide_eq_false_iff_not, Bool.not_eq_true', Bool.not_eq_false', Bool.and_eq_true, Bool.or_eq_true] at h25
      have hmy : mayB (atM l) nn now = false := by simpa using h25
      refine T.exit ?_
      refine T.thenX ?_
      refine T.blkX ?_
      refine T.thenN ?_
      refine T.region ?_
      refine L.addN rfl rfl rfl (by omega) ?_
      refine L.move rfl rfl ?_
      refine L.nil ?_
      refine T.thenN ?_
      refine T.ownEq a1 ((sortR (cR (atM l)) (fun x => mayB (atM l) x now) al (k + 1)).map e3) qP (by rw [sortR_s (by omega), ← hnn, if_neg (by rw [hmy]; decide)]) ?_
      exact T.back ⟨k + 1, _, _, _, ⟨by omega, by rw [sortR_s (by omega), ← hnn, if_neg (by rw [hmy]; decide)]; exact hl1⟩, rfl, rfl, rfl, rfl⟩ qI (.cons (t := 17) rfl <| .cons (t := 7) rfl <| SubK.nil _) (.cons (t := 0) rfl <| .cons (t := 1) rfl <| .cons (t := 15) rfl <| .cons (t := 16) rfl <| SubK.nil _) qD qD qF
    · try simp only [decide_eq_true_eq, decide_eq_false_iff_not, Bool.not_eq_true', Bool.not_eq_false', Bool.and_eq_true, Bool.or_eq_true] at h25
      have hmy : mayB (atM l) nn now = true := by simpa using h25
      refine T.skip ?_
      refine T.thenN ?_
      refine T.seq ?_
      refine T.region ?_
      refine L.buildSlice rfl bs39 (by decide) (BP.doneE (out := []) rfl) (fun b26 => ?_)
      refine L.toOwn (len := 0) qP (rows := ([] : List Int).map e3) (sz := 1) (by rfl) rfl (by simp) ?_
      refine L.assign rfl rfl ?_
      refine L.nil ?_
      refine T.thenN ?_
      refine T.seq ?_
      refine T.region ?_
      refine L.assign rfl rfl ?_
      refine L.nil ?_
      refine T.thenN ?_
      refine T.seq ?_
      refine T.seq ?_
      refine T.region ?_
      refine L.move rfl rfl ?_
      refine L.lenSl rfl Tryz.underlying39 rfl ?_
      refine L.move rfl rfl ?_
      refine L.nil ?_
      refine T.thenN ?_
      refine T.block ?_
      refine T.loop (fun K' D' M' μ => ∃ (j : Nat) (nx : List Int) (dn : Bool) (a2 : Option Addr) (l2 c2 : Nat), ((j ≤ l1 ∧ l2 = nx.length ∧ l2 ≤ 2 * j) ∧ InsI (cR (atM l)) nn (sortR (cR (atM l)) (fun x => mayB (atM l) x now) al k) nx dn j) ∧ K' = [(29, .int .i64 j), (10, .slice a2 l2 c2), (11, .bool dn)] ∧ D' = [] ∧ M' = [own 1 3 a2 l2 c2 ((nx).map e3)] ∧ μ = l1 - j) (.cons (t := 0) rfl <| .cons (t := 1) rfl <| .cons (t := 9) rfl <| .cons (t := 15) rfl <| .cons (t := 16) rfl <| .cons (t := 17) rfl <| .cons (t := 27) rfl <| .cons (t := 28) rfl <| SubK.nil _) (⟨0, [], false, _, 0, _, ⟨⟨by omega, rfl, by omega⟩, insI_0⟩, rfl, rfl, rfl, rfl⟩) (.cons (t := 29) rfl <| .cons (t := 10) rfl <| .cons (t := 11) rfl <| SubK.nil _) qD qS ?_
      rintro K1 D1 M1 m1 ⟨j, nx, dn, a2, l2, c2, ⟨⟨hj, hl2, hl3⟩, hI⟩, rfl, rfl, rfl, rfl⟩
      refine T.norm3 qA qA qA ?_
      refine T.seq ?_
      refine T.region ?_
      refine L.ltI rfl rfl rfl ?_
      refine L.nil ?_
      refine T.thenN ?_
      refine T.seq ?_
      refine T.cond rfl (fun h30 => ?_) (fun h30 => ?_)
      · try simp only [decide_eq_true_eq, decide_eq_false_iff_not, Bool.not_eq_true', Bool.not_eq_false', Bool.and_eq_true, Bool.or_eq_true] at h30
        refine T.ownNe (a := a1) qM (by omega) (fun ob oo ha => ?_)
        subst ha
        obtain ⟨x, hx⟩ := ex_get (l := sortR (cR (atM l)) (fun x => mayB (atM l) x now) al k) (k := j) (by omega)
        refine T.skip ?_
        refine T.thenN ?_
        refine T.seq ?_
        refine T.block ?_
        refine T.seq ?_
        refine T.region ?_
        refine L.idxG (i := j) rfl Tryz.underlying39 sz3 rfl rfl (by first | rfl | omega | (simp; done)) qI ?_
        refine L.load rfl sc3 rfl qC ?_
        refine L.assign rfl rfl ?_
        refine L.nil ?_
        refine T.thenN ?_
        refine T.seq ?_
        refine T.seq ?_
        refine T.region ?_
        refine L.move rfl rfl ?_
        refine L.notB rfl rfl ?_
        refine L.move rfl rfl ?_
        refine L.part (t := 35) rfl (fun h1 => ?_) (fun h1 => ?_)
        · try simp only [decide_eq_true_eq, decide_eq_false_iff_not, Bool.not_eq_true', Bool.not_eq_false', Bool.and_eq_true, Bool.or_eq_true] at h1
          have hdn : dn = false := by simpa using h1
          refine L.guardT (dj := 35) rfl rfl rfl ?_
          refine L.move rfl rfl ?_
          refine L.guardT (dj := 35) rfl rfl rfl ?_
          refine L.move rfl rfl ?_
          refine L.guardT (dj := 35) rfl rfl rfl ?_
          refine L.callF rfl (evs.cons rfl <| evs.cons rfl <| evs.nil) qD qS (rat_spec hb) (by rintro u D1 M1 ⟨rfl, rfl, rfl⟩; exact ⟨rfl, _, qA, qF⟩) ?_
          refine L.guardT (dj := 35) rfl rfl rfl ?_
          refine L.fieldV (off := 1) rfl Tryz.underlying108 rfl sc3 rfl rfl ?_
          refine L.guardT (dj := 35) rfl rfl rfl ?_
          refine L.move rfl rfl ?_
          refine L.guardT (dj := 35) rfl rfl rfl ?_
          refine L.move rfl rfl ?_
          refine L.guardT (dj := 35) rfl rfl rfl ?_
          refine L.callF rfl (evs.cons rfl <| evs.cons rfl <| evs.nil) qD qS (rat_spec hb) (by rintro u D1 M1 ⟨rfl, rfl, rfl⟩; exact ⟨rfl, _, qA, qF⟩) ?_
          refine L.guardT (dj := 35) rfl rfl rfl ?_
          refine L.fieldV (off := 1) rfl Tryz.underlying108 rfl sc3 rfl rfl ?_
          refine L.guardT (dj := 35) rfl rfl rfl ?_
          refine L.gtI rfl rfl rfl ?_
          refine L.guardT (dj := 35) rfl rfl rfl ?_
          refine L.move rfl rfl ?_
          refine L.part (t := 45) rfl (fun h2 => ?_) (fun h2 => ?_)
          · try simp only [decide_eq_true_eq, decide_eq_false_iff_not, Bool.not_eq_true', Bool.not_eq_false', Bool.and_eq_true, Bool.or_eq_true] at h2
            have hyes : cR (atM l) nn x = true := by unfold cR; simp [h2]
            refine L.guardF (dj := 45) (c := true) rfl rfl rfl rfl rfl (by decide) ?_
            refine L.guardF (dj := 45) (c := true) rfl rfl rfl rfl rfl (by decide) ?_
            refine L.guardF (dj := 45) (c := true) rfl rfl rfl rfl rfl (by decide) ?_
            refine L.guardF (dj := 45) (c := true) rfl rfl rfl rfl rfl (by decide) ?_
            refine L.guardF (dj := 45) (c := true) rfl rfl rfl rfl rfl (by decide) ?_
            refine L.guardF (dj := 45) (c := true) rfl rfl rfl rfl rfl (by decide) ?_
            refine L.guardF (dj := 45) (c := true) rfl rfl rfl rfl rfl (by decide) ?_
            refine L.guardF (dj := 45) (c := true) rfl rfl rfl rfl rfl (by decide) ?_
            refine L.guardF (dj := 45) (c := true) rfl rfl rfl rfl rfl (by decide) ?_
            refine L.guardF (dj := 45) (c := true) rfl rfl rfl rfl rfl (by decide) ?_
            refine L.guardU (dj := 55) rfl rfl rfl rfl rfl ?_
            refine L.guardU (dj := 55) rfl rfl rfl rfl rfl ?_
            refine L.guardU (dj := 55) rfl rfl rfl rfl rfl ?_
            refine L.guardF (dj := 45) (c := true) rfl rfl rfl rfl rfl (by decide) ?_
            refine L.guardT (dj := 35) rfl rfl rfl ?_
            refine L.pickT rfl rfl rfl ?_
            refine L.pickT rfl rfl rfl ?_
            refine L.nil ?_
            refine T.thenN ?_
            refine T.condT rfl rfl ?_
            refine T.seq ?_
            refine T.region ?_
            refine L.move rfl rfl ?_
            refine L.move rfl rfl ?_
            refine L.buildSlice rfl bs39 (by decide) (BP.one rfl rfl rfl <| BP.doneE (out := []) rfl) (fun b64 => ?_)
            refine L.append1 rfl Tryz.underlying39 el3 rfl rfl qP qM rfl qO1 qI qI (fun a65 c65 => ?_)
            refine L.assign rfl rfl ?_
            refine L.nil ?_
            refine T.thenN ?_
            refine T.region ?_
            refine L.assign rfl rfl ?_
            refine L.nil ?_
            refine T.thenN ?_
            refine T.region ?_
            refine L.move rfl rfl ?_
            refine L.move rfl rfl ?_
            refine L.buildSlice rfl bs39 (by decide) (BP.one rfl rfl rfl <| BP.doneE (out := []) rfl) (fun b68 => ?_)
            refine L.append1 rfl Tryz.underlying39 el3 rfl rfl qP qM rfl qO1 qI qI (fun a69 c69 => ?_)
            refine L.assign rfl rfl ?_
            refine L.nil ?_
            refine T.blkN ?_
            refine T.thenN ?_
            refine T.region ?_
            refine L.addN rfl rfl rfl (by omega) ?_
            refine L.move rfl rfl ?_
            refine L.nil ?_
            refine T.thenN ?_
            refine T.ownEq a69 ((nx ++ [nn] ++ [x]).map e3) qP (by simp) ?_
            exact T.back ⟨j + 1, nx ++ [nn] ++ [x], true, _, _, _, ⟨⟨by omega, by rw [List.length_append, List.length_append, hl2]; rfl, by omega⟩, insI_hit hI hdn hx hyes⟩, rfl, rfl, rfl, rfl⟩ qI (.cons (t := 29) rfl <| .cons (t := 10) rfl <| .cons (t := 11) rfl <| SubK.nil _) (.cons (t := 0) rfl <| .cons (t := 1) rfl <| .cons (t := 9) rfl <| .cons (t := 15) rfl <| .cons (t := 16) rfl <| .cons (t := 17) rfl <| .cons (t := 27) rfl <| .cons (t := 28) rfl <| SubK.nil _) qD qD qF
          · try simp only [decide_eq_true_eq, decide_eq_false_iff_not, Bool.not_eq_true', Bool.not_eq_false', Bool.and_eq_true, Bool.or_eq_true] at h2
            have hs1 := h2
            refine L.guardT (dj := 45) rfl rfl rfl ?_
            refine L.move rfl rfl ?_
            refine L.guardT (dj := 45) rfl rfl rfl ?_
            refine L.move rfl rfl ?_
            refine L.guardT (dj := 45) rfl rfl rfl ?_
            refine L.callF rfl (evs.cons rfl <| evs.cons rfl <| evs.nil) qD qS (rat_spec hb) (by rintro u D1 M1 ⟨rfl, rfl, rfl⟩; exact ⟨rfl, _, qA, qF⟩) ?_
            refine L.guardT (dj := 45) rfl rfl rfl ?_
            refine L.fieldV (off := 1) rfl Tryz.underlying108 rfl sc3 rfl rfl ?_
            refine L.guardT (dj := 45) rfl rfl rfl ?_
            refine L.move rfl rfl ?_
            refine L.guardT (dj := 45) rfl rfl rfl ?_
            refine L.move rfl rfl ?_
            refine L.guardT (dj := 45) rfl rfl rfl ?_
            refine L.callF rfl (evs.cons rfl <| evs.cons rfl <| evs.nil) qD qS (rat_spec hb) (by rintro u D1 M1 ⟨rfl, rfl, rfl⟩; exact ⟨rfl, _, qA, qF⟩) ?_
            refine L.guardT (dj := 45) rfl rfl rfl ?_
            refine L.fieldV (off := 1) rfl Tryz.underlying108 rfl sc3 rfl rfl ?_
            refine L.guardT (dj := 45) rfl rfl rfl ?_
            refine L.eqI rfl rfl rfl ?_
            refine L.guardT (dj := 45) rfl rfl rfl ?_
            refine L.move rfl rfl ?_
            refine L.part (t := 55) rfl (fun h3 => ?_) (fun h3 => ?_)
            · try simp only [decide_eq_true_eq, decide_eq_false_iff_not, Bool.not_eq_true', Bool.not_eq_false', Bool.and_eq_true, Bool.or_eq_true] at h3
              have hs2 := h3
              refine L.guardT (dj := 55) rfl rfl rfl ?_
              refine L.move rfl rfl ?_
              refine L.guardT (dj := 55) rfl rfl rfl ?_
              refine L.move rfl rfl ?_
              refine L.guardT (dj := 55) rfl rfl rfl ?_
              refine L.ltI rfl rfl rfl ?_
              refine L.guardT (dj := 45) rfl rfl rfl ?_
              refine L.pickT rfl rfl rfl ?_
              refine L.guardT (dj := 35) rfl rfl rfl ?_
              refine L.pickF rfl rfl rfl ?_
              refine L.pickT rfl rfl rfl ?_
              refine L.nil ?_
              refine T.thenN ?_
              refine T.cond rfl (fun h61 => ?_) (fun h61 => ?_)
              · try simp only [decide_eq_true_eq, decide_eq_false_iff_not, Bool.not_eq_true', Bool.not_eq_false', Bool.and_eq_true, Bool.or_eq_true] at h61
                have hyes : cR (atM l) nn x = true := by unfold cR; simp; omega
                refine T.seq ?_
                refine T.region ?_
                refine L.move rfl rfl ?_
                refine L.move rfl rfl ?_
                refine L.buildSlice rfl bs39 (by decide) (BP.one rfl rfl rfl <| BP.doneE (out := []) rfl) (fun b64 => ?_)
                refine L.append1 rfl Tryz.underlying39 el3 rfl rfl qP qM rfl qO1 qI qI (fun a65 c65 => ?_)
                refine L.assign rfl rfl ?_
                refine L.nil ?_
                refine T.thenN ?_
                refine T.region ?_
                refine L.assign rfl rfl ?_
                refine L.nil ?_
                refine T.thenN ?_
                refine T.region ?_
                refine L.move rfl rfl ?_
                refine L.move rfl rfl ?_
                refine L.buildSlice rfl bs39 (by decide) (BP.one rfl rfl rfl <| BP.doneE (out := []) rfl) (fun b68 => ?_)
                refine L.append1 rfl Tryz.underlying39 el3 rfl rfl qP qM rfl qO1 qI qI (fun a69 c69 => ?_)
                refine L.assign rfl rfl ?_
                refine L.nil ?_
                refine T.blkN ?_
                refine T.thenN ?_
                refine T.region ?_
                refine L.addN rfl rfl rfl (by omega) ?_
                refine L.move rfl rfl ?_
                refine L.nil ?_
                refine T.thenN ?_
                refine T.ownEq a69 ((nx ++ [nn] ++ [x]).map e3) qP (by simp) ?_
                exact T.back ⟨j + 1, nx ++ [nn] ++ [x], true, _, _, _, ⟨⟨by omega, by rw [List.length_append, List.length_append, hl2]; rfl, by omega⟩, insI_hit hI hdn hx hyes⟩, rfl, rfl, rfl, rfl⟩ qI (.cons (t := 29) rfl <| .cons (t := 10) rfl <| .cons (t := 11) rfl <| SubK.nil _) (.cons (t := 0) rfl <| .cons (t := 1) rfl <| .cons (t := 9) rfl <| .cons (t := 15) rfl <| .cons (t := 16) rfl <| .cons (t := 17) rfl <| .cons (t := 27) rfl <| .cons (t := 28) rfl <| SubK.nil _) qD qD qF
              · try simp only [decide_eq_true_eq, decide_eq_false_iff_not, Bool.not_eq_true', Bool.not_eq_false', Bool.and_eq_true, Bool.or_eq_true] at h61
                have hno : dn = true ∨ cR (atM l) nn x = false := .inr (by unfold cR; simp; omega)
                refine T.skip ?_
                refine T.thenN ?_
                refine T.region ?_
                refine L.move rfl rfl ?_
                refine L.move rfl rfl ?_
                refine L.buildSlice rfl bs39 (by decide) (BP.one rfl rfl rfl <| BP.doneE (out := []) rfl) (fun b68 => ?_)
                refine L.append1 rfl Tryz.underlying39 el3 rfl rfl qP qM rfl qO1 qI qI (fun a69 c69 => ?_)
                refine L.assign rfl rfl ?_
                refine L.nil ?_
                refine T.blkN ?_
                refine T.thenN ?_
                refine T.region ?_
                refine L.addN rfl rfl rfl (by omega) ?_
                refine L.move rfl rfl ?_
                refine L.nil ?_
                refine T.thenN ?_
                refine T.ownEq a69 ((nx ++ [x]).map e3) qP (by simp) ?_
                exact T.back ⟨j + 1, nx ++ [x], _, _, _, _, ⟨⟨by omega, by rw [List.length_append, hl2]; rfl, by omega⟩, insI_no hI hx hno⟩, rfl, rfl, rfl, rfl⟩ qI (.cons (t := 29) rfl <| .cons (t := 10) rfl <| .cons (t := 11) rfl <| SubK.nil _) (.cons (t := 0) rfl <| .cons (t := 1) rfl <| .cons (t := 9) rfl <| .cons (t := 15) rfl <| .cons (t := 16) rfl <| .cons (t := 17) rfl <| .cons (t := 27) rfl <| .cons (t := 28) rfl <| SubK.nil _) qD qD qF
            · try simp only [decide_eq_true_eq, decide_eq_false_iff_not, Bool.not_eq_true', Bool.not_eq_false', Bool.and_eq_true, Bool.or_eq_true] at h3
              have hno : dn = true ∨ cR (atM l) nn x = false := .inr (by unfold cR; simp; omega)
              refine L.guardF (dj := 55) (c := false) rfl rfl rfl rfl rfl (by decide) ?_
              refine L.guardF (dj := 55) (c := false) rfl rfl rfl rfl rfl (by decide) ?_
              refine L.guardF (dj := 55) (c := false) rfl rfl rfl rfl rfl (by decide) ?_
              refine L.guardT (dj := 45) rfl rfl rfl ?_
              refine L.pickF rfl rfl rfl ?_
              refine L.guardT (dj := 35) rfl rfl rfl ?_
              refine L.pickF rfl rfl rfl ?_
              refine L.pickT rfl rfl rfl ?_
              refine L.nil ?_
              refine T.thenN ?_
              refine T.condF rfl rfl ?_
              refine T.skip ?_
              refine T.thenN ?_
              refine T.region ?_
              refine L.move rfl rfl ?_
              refine L.move rfl rfl ?_
              refine L.buildSlice rfl bs39 (by decide) (BP.one rfl rfl rfl <| BP.doneE (out := []) rfl) (fun b68 => ?_)
              refine L.append1 rfl Tryz.underlying39 el3 rfl rfl qP qM rfl qO1 qI qI (fun a69 c69 => ?_)
              refine L.assign rfl rfl ?_
              refine L.nil ?_
              refine T.blkN ?_
              refine T.thenN ?_
              refine T.region ?_
              refine L.addN rfl rfl rfl (by omega) ?_
              refine L.move rfl rfl ?_
              refine L.nil ?_
              refine T.thenN ?_
              refine T.ownEq a69 ((nx ++ [x]).map e3) qP (by simp) ?_
              exact T.back ⟨j + 1, nx ++ [x], _, _, _, _, ⟨⟨by omega, by rw [List.length_append, hl2]; rfl, by omega⟩, insI_no hI hx hno⟩, rfl, rfl, rfl, rfl⟩ qI (.cons (t := 29) rfl <| .cons (t := 10) rfl <| .cons (t := 11) rfl <| SubK.nil _) (.cons (t := 0) rfl <| .cons (t := 1) rfl <| .cons (t := 9) rfl <| .cons (t := 15) rfl <| .cons (t := 16) rfl <| .cons (t := 17) rfl <| .cons (t := 27) rfl <| .cons (t := 28) rfl <| SubK.nil _) qD qD qF
        · try simp only [decide_eq_true_eq, decide_eq_false_iff_not, Bool.not_eq_true', Bool.not_eq_false', Bool.and_eq_true, Bool.or_eq_true] at h1
          have hno : dn = true ∨ cR (atM l) nn x = false := .inl (by simpa using h1)
          refine L.guardF (dj := 35) (c := false) rfl rfl rfl rfl rfl (by decide) ?_
          refine L.guardF (dj := 35) (c := false) rfl rfl rfl rfl rfl (by decide) ?_
          refine L.guardF (dj := 35) (c := false) rfl rfl rfl rfl rfl (by decide) ?_
          refine L.guardF (dj := 35) (c := false) rfl rfl rfl rfl rfl (by decide) ?_
          refine L.guardF (dj := 35) (c := false) rfl rfl rfl rfl rfl (by decide) ?_
          refine L.guardF (dj := 35) (c := false) rfl rfl rfl rfl rfl (by decide) ?_
          refine L.guardF (dj := 35) (c := false) rfl rfl rfl rfl rfl (by decide) ?_
          refine L.guardF (dj := 35) (c := false) rfl rfl rfl rfl rfl (by decide) ?_
          refine L.guardF (dj := 35) (c := false) rfl rfl rfl rfl rfl (by decide) ?_
          refine L.guardF (dj := 35) (c := false) rfl rfl rfl rfl rfl (by decide) ?_
          refine L.guardU (dj := 45) rfl rfl rfl rfl rfl ?_
          refine L.guardU (dj := 45) rfl rfl rfl rfl rfl ?_
          refine L.guardU (dj := 45) rfl rfl rfl rfl rfl ?_
          refine L.guardU (dj := 45) rfl rfl rfl rfl rfl ?_
          refine L.guardU (dj := 45) rfl rfl rfl rfl rfl ?_
          refine L.guardU (dj := 45) rfl rfl rfl rfl rfl ?_
          refine L.guardU (dj := 45) rfl rfl rfl rfl rfl ?_
          refine L.guardU (dj := 45) rfl rfl rfl rfl rfl ?_
          refine L.guardU (dj := 45) rfl rfl rfl rfl rfl ?_
          refine L.guardU (dj := 45) rfl rfl rfl rfl rfl ?_
          refine L.guardU (dj := 55) rfl rfl rfl rfl rfl ?_
          refine L.guardU (dj := 55) rfl rfl rfl rfl rfl ?_
          refine L.guardU (dj := 55) rfl rfl rfl rfl rfl ?_
          refine L.guardU (dj := 45) rfl rfl rfl rfl rfl ?_
          refine L.guardF (dj := 35) (c := false) rfl rfl rfl rfl rfl (by decide) ?_
          refine L.pickF rfl rfl rfl ?_
          refine L.nil ?_
          refine T.thenN ?_
          refine T.condF rfl rfl ?_
          refine T.skip ?_
          refine T.thenN ?_
          refine T.region ?_
          refine L.move rfl rfl ?_
          refine L.move rfl rfl ?_
          refine L.buildSlice rfl bs39 (by decide) (BP.one rfl rfl rfl <| BP.doneE (out := []) rfl) (fun b68 => ?_)
          refine L.append1 rfl Tryz.underlying39 el3 rfl rfl qP qM rfl qO1 qI qI (fun a69 c69 => ?_)
          refine L.assign rfl rfl ?_
          refine L.nil ?_
          refine T.blkN ?_
          refine T.thenN ?_
          refine T.region ?_
          refine L.addN rfl rfl rfl (by omega) ?_
          refine L.move rfl rfl ?_
          refine L.nil ?_
          refine T.thenN ?_
          refine T.ownEq a69 ((nx ++ [x]).map e3) qP (by simp) ?_
          exact T.back ⟨j + 1, nx ++ [x], _, _, _, _, ⟨⟨by omega, by rw [List.length_append, hl2]; rfl, by omega⟩, insI_no hI hx hno⟩, rfl, rfl, rfl, rfl⟩ qI (.cons (t := 29) rfl <| .cons (t := 10) rfl <| .cons (t := 11) rfl <| SubK.nil _) (.cons (t := 0) rfl <| .cons (t := 1) rfl <| .cons (t := 9) rfl <| .cons (t := 15) rfl <| .cons (t := 16) rfl <| .cons (t := 17) rfl <| .cons (t := 27) rfl <| .cons (t := 28) rfl <| SubK.nil _) qD qD qF
      · try simp only [decide_eq_true_eq, decide_eq_false_iff_not, Bool.not_eq_true', Bool.not_eq_false', Bool.and_eq_true, Bool.or_eq_true] at h30
        obtain rfl : j = (sortR (cR (atM l)) (fun x => mayB (atM l) x now) al k).length := by omega
        refine T.exit ?_
        refine T.thenX ?_
        refine T.thenX ?_
        refine T.blkX ?_
        refine T.thenN ?_
        refine T.seq ?_
        refine T.seq ?_
        refine T.region ?_
        refine L.move rfl rfl ?_
        refine L.notB rfl rfl ?_
        refine L.nil ?_
        refine T.thenN ?_
        refine T.cond rfl (fun h72 => ?_) (fun h72 => ?_)
        · try simp only [decide_eq_true_eq, decide_eq_false_iff_not, Bool.not_eq_true', Bool.not_eq_false', Bool.and_eq_true, Bool.or_eq_true] at h72
          have hde : dn = false := by simpa using h72
          refine T.region ?_
          refine L.move rfl rfl ?_
          refine L.move rfl rfl ?_
          refine L.buildSlice rfl bs39 (by decide) (BP.one rfl rfl rfl <| BP.doneE (out := []) rfl) (fun b75 => ?_)
          refine L.append1 rfl Tryz.underlying39 el3 rfl rfl qP qM rfl qO1 qI qI (fun a76 c76 => ?_)
          refine L.assign rfl rfl ?_
          refine L.nil ?_
          refine T.thenN ?_
          refine T.region ?_
          refine L.move rfl rfl ?_
          refine L.assign rfl rfl ?_
          refine L.nil ?_
          refine T.blkN ?_
          refine T.thenN ?_
          refine T.region ?_
          refine L.addN rfl rfl rfl (by omega) ?_
          refine L.move rfl rfl ?_
          refine L.nil ?_
          refine T.thenN ?_
          refine T.ownEq a76 ((sortR (cR (atM l)) (fun x => mayB (atM l) x now) al (k + 1)).map e3) qP (by rw [sortR_s (by omega), ← hnn, if_pos hmy, ← insI_endT hI hde]; simp) ?_
          exact T.back ⟨k + 1, _, _, _, ⟨by omega, by rw [sortR_s (by omega), ← hnn, if_pos hmy, ← insI_endT hI hde, List.length_append, hl2]; rfl⟩, rfl, rfl, rfl, rfl⟩ qI (.cons (t := 17) rfl <| .cons (t := 7) rfl <| SubK.nil _) (.cons (t := 0) rfl <| .cons (t := 1) rfl <| .cons (t := 15) rfl <| .cons (t := 16) rfl <| SubK.nil _) qD qD qF
        · try simp only [decide_eq_true_eq, decide_eq_false_iff_not, Bool.not_eq_true', Bool.not_eq_false', Bool.and_eq_true, Bool.or_eq_true] at h72
          have hde : dn = true := by simpa using h72
          refine T.skip ?_
          refine T.thenN ?_
          refine T.region ?_
          refine L.move rfl rfl ?_
          refine L.assign rfl rfl ?_
          refine L.nil ?_
          refine T.blkN ?_
          refine T.thenN ?_
          refine T.region ?_
          refine L.addN rfl rfl rfl (by omega) ?_
          refine L.move rfl rfl ?_
          refine L.nil ?_
          refine T.thenN ?_
          refine T.ownEq a2 ((sortR (cR (atM l)) (fun x => mayB (atM l) x now) al (k + 1)).map e3) qP (by rw [sortR_s (by omega), ← hnn, if_pos hmy, ← insI_endF hI hde]) ?_
          exact T.back ⟨k + 1, _, _, _, ⟨by omega, by rw [sortR_s (by omega), ← hnn, if_pos hmy, ← insI_endF hI hde]; exact hl2⟩, rfl, rfl, rfl, rfl⟩ qI (.cons (t := 17) rfl <| .cons (t := 7) rfl <| SubK.nil _) (.cons (t := 0) rfl <| .cons (t := 1) rfl <| .cons (t := 15) rfl <| .cons (t := 16) rfl <| SubK.nil _) qD qD qF
  · try simp only [decide_eq_true_eq, decide_eq_false_iff_not, Bool.not_eq_true', Bool.not_eq_false', Bool.and_eq_true, Bool.or_eq_true] at h18
    obtain rfl : k = al.length := by omega
    refine T.exit ?_
    refine T.thenX ?_
    refine T.thenX ?_
    refine T.blkX ?_
    refine T.thenN ?_
    refine T.seq ?_
    refine T.region ?_
    refine L.move rfl rfl ?_
    refine L.assign rfl rfl ?_
    refine L.nil ?_
    refine T.thenN ?_
    refine T.ret ?_
    exact T.ret1 rfl rfl ⟨_, _, _, rfl, hl1, rfl, rfl⟩ qD qF
end Cv
