/-
  The walks: functions on slices of integers.
-/
import Derived.Test.YtcfhpmijippbmaaGreatCvLc
import Derived.Test.YtcfhpmijippbmaaGreatCvLf
import Derived.Test.YtcfhpmijippbmaaGreatProg
import Derived.KernelRfl
set_option linter.unusedVariables false
set_option linter.unusedSimpArgs false
set_option linter.unusedSectionVars false
set_option maxRecDepth 10000
namespace Cv
open Go Go.Proofs
/-! ## lists behind slices -/
def idxF (p : Int → Bool) (xs : List Int) : Int := if xs.any p then (xs.findIdx p : Int) else -1
theorem idxF_none {p : Int → Bool} {xs : List Int} (h : ∀ y ∈ xs, p y = false) : idxF p xs = -1 := by
  unfold idxF
  rw [if_neg (by simpa using h)]
theorem idxF_at {p : Int → Bool} {xs : List Int} {k : Nat} {x : Int} (h : ∀ y ∈ xs.take k, p y = false) (hk : xs[k]? = some x) (hp : p x = true) : idxF p xs = (k : Int) := by
  have hlt : k < xs.length := (List.getElem?_eq_some_iff.1 hk).1
  have hx : xs[k] = x := (List.getElem?_eq_some_iff.1 hk).2
  unfold idxF
  rw [if_pos (List.any_eq_true.2 ⟨x, List.mem_of_getElem? hk, hp⟩)]
  congr 1
  apply (List.findIdx_eq hlt).2
  refine ⟨by rw [hx]; exact hp, fun j hj => ?_⟩
  exact h _ (by rw [List.mem_take_iff_getElem]; exact ⟨j, by omega, rfl⟩)
theorem idxF_cases {p : Int → Bool} {xs : List Int} : (idxF p xs = -1 ∧ xs.filter (fun x => !p x) = xs) ∨ ∃ k : Nat, idxF p xs = k ∧ k < xs.length ∧ (xs.take (k + 1)).filter (fun x => !p x) = xs.take k := by
  by_cases h : xs.any p = true
  · right
    have hlt : xs.findIdx p < xs.length := List.findIdx_lt_length_of_exists (by simpa using h)
    refine ⟨xs.findIdx p, by rw [idxF, if_pos h], hlt, ?_⟩
    rw [List.take_succ_eq_append_getElem hlt, List.filter_append]
    have h1 : p xs[xs.findIdx p] = true := List.findIdx_getElem
    have h2 : (xs.take (xs.findIdx p)).filter (fun x => !p x) = xs.take (xs.findIdx p) := by
      rw [List.filter_eq_self]
      intro a ha
      obtain ⟨j, hj, rfl⟩ := List.mem_take_iff_getElem.1 ha
      have := List.not_of_lt_findIdx (p := p) (xs := xs) (i := j) (by omega)
      simpa using this
    simp [h1, h2]
  · left
    simp only [Bool.not_eq_true, List.any_eq_false] at h
    exact ⟨idxF_none (by simpa using h), List.filter_eq_self.2 (by simpa using h)⟩
theorem idxF_m1 {p : Int → Bool} {xs : List Int} (h : idxF p xs = -1) : xs.filter (fun x => !p x) = xs := by
  rcases idxF_cases (p := p) (xs := xs) with h' | ⟨k, hk, _⟩
  · exact h'.2
  · omega
theorem idxF_k {p : Int → Bool} {xs : List Int} (h : ¬ idxF p xs = -1) : ∃ k : Nat, idxF p xs = k ∧ k < xs.length ∧ (xs.take (k + 1)).filter (fun x => !p x) = xs.take k := by
  rcases idxF_cases (p := p) (xs := xs) with h' | h'
  · exact absurd h'.1 h
  · exact h'
theorem all_next {p : Int → Bool} {xs : List Int} {k : Nat} (h : ∀ y ∈ xs.take k, p y = false) (hk : k < xs.length) (hp : p (gd xs k) = false) : ∀ y ∈ xs.take (k + 1), p y = false := by
  intro y hy
  rw [List.take_add_one, gd_get hk] at hy
  rcases List.mem_append.1 hy with h1 | h1
  · exact h y h1
  · simp at h1; rw [h1]; exact hp
/-- what DeleteFunc has done: of ys the first i are those of the first j of xs that stay, the rest from j on is as it was -/
def DelI (p : Int → Bool) (xs ys : List Int) (i j : Nat) : Prop := ys.length = xs.length ∧ i ≤ j ∧ j ≤ xs.length ∧ ys.take i = (xs.take j).filter (fun x => !p x) ∧ ys.drop j = xs.drop j
theorem deli_0 {p : Int → Bool} {xs : List Int} {k : Nat} (hk : k < xs.length) (h : (xs.take (k + 1)).filter (fun x => !p x) = xs.take k) : DelI p xs xs k (k + 1) := ⟨rfl, by omega, by omega, h.symm, rfl⟩
theorem deli_get {p : Int → Bool} {xs ys : List Int} {i j : Nat} (h : DelI p xs ys i j) (hj : j < xs.length) : ys[j]? = some (gd xs j) := by
  have := congrArg (fun l : List Int => l[0]?) h.2.2.2.2
  simp only [List.getElem?_drop, Nat.add_zero] at this
  rw [this]; exact gd_get hj
theorem deli_no {p : Int → Bool} {xs ys : List Int} {i j : Nat} (h : DelI p xs ys i j) (hj : j < xs.length) (hp : p (gd xs j) = true) : DelI p xs ys i (j + 1) := by
  obtain ⟨h1, h2, h3, h4, h5⟩ := h
  refine ⟨h1, by omega, by omega, ?_, ?_⟩
  · rw [List.take_add_one, gd_get hj, h4]; simp [hp]
  · rw [← List.drop_drop, ← List.drop_drop, h5]
theorem deli_yes {p : Int → Bool} {xs ys : List Int} {i j : Nat} (h : DelI p xs ys i j) (hj : j < xs.length) (hp : p (gd xs j) = false) : DelI p xs (ys.set i (gd xs j)) (i + 1) (j + 1) := by
  obtain ⟨h1, h2, h3, h4, h5⟩ := h
  refine ⟨by simpa using h1, by omega, by omega, ?_, ?_⟩
  · rw [List.take_add_one (l := xs), gd_get hj, List.filter_append, ← h4, List.take_set, List.take_succ_eq_append_getElem (by omega)]
    rw [List.set_append_right _ _ (by simp; omega)]
    have : min i ys.length = i := by omega
    simp [hp, this]
  · rw [List.drop_set_of_lt (by omega), ← List.drop_drop, ← List.drop_drop, h5]
theorem deli_end {p : Int → Bool} {xs ys : List Int} {i : Nat} (h : DelI p xs ys i xs.length) : ys.take i = xs.filter (fun x => !p x) := by
  have := h.2.2.2.1
  rwa [List.take_length] at this
theorem take_tail {α : Type} {l r : List α} {i : Nat} (h : i ≤ l.length) : (l.take i ++ r).take i = l.take i := by
  rw [List.take_append_of_le_length (by simp; omega), List.take_take, Nat.min_self]
/-! ## sorting -/
structure SWOc (cf : Int → Int → Int) : Prop where
  irrefl : ∀ x, ¬ cf x x < 0
  asym : ∀ x y, cf x y < 0 → ¬ cf y x < 0
  ntrans : ∀ x y z, ¬ cf x y < 0 → ¬ cf y z < 0 → ¬ cf x z < 0
/-- the first n rise -/
def SortTo (cf : Int → Int → Int) (ys : List Int) (n : Nat) : Prop := ∀ p q, p < q → q < n → ¬ cf (gd ys q) (gd ys p) < 0
/-- the first i + 1 rise, but for the one at j, that those behind it are not less than -/
def SortBut (cf : Int → Int → Int) (ys : List Int) (i j : Nat) : Prop := ∀ p q, p < q → q ≤ i → q ≠ j → ¬ cf (gd ys q) (gd ys p) < 0
def swp (ys : List Int) (j : Nat) : List Int := (ys.set j (gd ys (j - 1))).set (j - 1) (gd ys j)
theorem swp_len {ys : List Int} {j : Nat} : (swp ys j).length = ys.length := by simp [swp]
theorem swp_gd {ys : List Int} {j q : Nat} (h0 : 0 < j) (h : j < ys.length) : gd (swp ys j) q = if q = j then gd ys (j - 1) else if q = j - 1 then gd ys j else gd ys q := by
  unfold swp
  rw [gd_set (by simp; omega), gd_set h]
  by_cases h1 : q = j
  · subst h1; rw [if_neg (by omega)]; simp
  · by_cases h2 : q = j - 1
    · subst h2; simp [h1]
    · rw [if_neg (fun e => h2 e.symm), if_neg (fun e => h1 e.symm), if_neg h1, if_neg h2]
theorem swp_perm {ys : List Int} {j : Nat} (h0 : 0 < j) (h : j < ys.length) : (swp ys j).Perm ys := by
  have e : ∀ (l : List Int) (k : Nat) (hk : k + 1 < l.length), ((l.set (k + 1) (gd l k)).set k (gd l (k + 1))).Perm l := by
    intro l
    induction l with
    | nil => intro k hk; simp at hk
    | cons a l ih =>
      intro k hk
      cases k with
      | zero =>
        cases l with
        | nil => simp at hk
        | cons b l => simp only [List.set, gd, List.getD_cons_zero, List.getD_cons_succ]; exact List.Perm.swap _ _ _
      | succ k =>
        simp only [List.set, gd, List.getD_cons_succ]
        exact List.Perm.cons _ (ih k (by simpa using hk))
  obtain ⟨k, rfl⟩ : ∃ k, j = k + 1 := ⟨j - 1, by omega⟩
  exact e ys k h
theorem sortBut_0 {cf : Int → Int → Int} {ys : List Int} {i : Nat} (h : SortTo cf ys i) : SortBut cf ys i i := fun p q h1 h2 h3 => h p q h1 (by omega)
theorem sortBut_swp {cf : Int → Int → Int} {ys : List Int} {i j : Nat} (h : SortBut cf ys i j) (hO : SWOc cf) (h0 : 0 < j) (hj : j ≤ i) (hi : i < ys.length) (hc : cf (gd ys j) (gd ys (j - 1)) < 0) : SortBut cf (swp ys j) i (j - 1) := by
  have hasym : ¬ cf (gd ys (j - 1)) (gd ys j) < 0 := hO.asym _ _ hc
  intro p q h1 h2 h3
  rw [swp_gd h0 (by omega), swp_gd h0 (by omega)]
  by_cases e1 : q = j
  · subst e1
    rw [if_pos rfl, if_neg (by omega)]
    by_cases e2 : p = q - 1
    · rw [if_pos e2]; exact hasym
    · rw [if_neg e2]; exact h p (q - 1) (by omega) (by omega) (by omega)
  · rw [if_neg e1, if_neg h3]
    by_cases e2 : p = j
    · subst e2; rw [if_pos rfl]; exact h (p - 1) q (by omega) h2 e1
    · rw [if_neg e2]
      by_cases e3 : p = j - 1
      · rw [if_pos e3]; exact h j q (by omega) h2 e1
      · rw [if_neg e3]; exact h p q h1 h2 e1
theorem sortBut_end {cf : Int → Int → Int} {ys : List Int} {i j : Nat} (h : SortBut cf ys i j) (hO : SWOc cf) (hj : j ≤ i) (hc : j = 0 ∨ ¬ cf (gd ys j) (gd ys (j - 1)) < 0) : SortTo cf ys (i + 1) := by
  intro p q h1 h2
  by_cases e : q = j
  · subst e
    rcases hc with rfl | hc
    · omega
    · by_cases e2 : p = q - 1
      · rw [e2]; exact hc
      · exact hO.ntrans _ _ _ hc (h p (q - 1) (by omega) (by omega) (by omega))
  · exact h p q h1 (by omega) e
theorem sortTo_len {cf : Int → Int → Int} {ys : List Int} {i len : Nat} (h : SortTo cf ys i) (h1 : i ≤ len ∨ i = 1) (h2 : len ≤ i) : SortTo cf ys len := by
  intro p q hpq hq
  exact h p q hpq (by omega)
def orF : List Int → Int
  | [] => 0
  | x :: xs => if x ≠ 0 then x else orF xs
def cmpI (x y : Int) : Int := if x < y then -1 else if y < x then 1 else 0
theorem orF_drop {xs : List Int} {k : Nat} (h : k < xs.length) : orF (xs.drop k) = if gd xs k ≠ 0 then gd xs k else orF (xs.drop (k + 1)) := by
  rw [List.drop_eq_getElem_cons h]
  simp [orF, gd, h]
@[reducible] def e3 : Int → List Value | a => [.int .i64 a]
def g3 : Int → Prop | a => (-9223372036854775808 ≤ a ∧ a ≤ 9223372036854775807)
theorem el3z {H : Type} {enc : TypeId × Value → H} {W : World} {base : Nat} {sp : Nat → Bool} {held : Bool} {n : Nat} {cs : List Value} {y : DataW H × List MemPlace} (h : DataW.trod enc Tryz.prog W base sp held n 3 cs = some y) : ∃ z, cs = e3 z ∧ g3 z := by
  obtain ⟨n, rfl, -, hw⟩ := DataW.trod_int Tryz.underlying3 h
  exact ⟨n, rfl, Cv.wf64 hw⟩
theorem zv3 : ∀ w, (zeroValue 3).run Tryz.prog w = .ok (Value.int .i64 0) w := fun w => by kernel_rfl
theorem bs39 : Bs Tryz.prog 39 3 1 [Value.int .i64 0] := bs_of Tryz.underlying39 (fun w => by kernel_rfl) zv3 rfl rfl (by decide)
theorem el3 : El Tryz.prog 3 1 8 := ⟨_, _, rfl, rfl, by kernel_rfl, by kernel_rfl, by kernel_rfl⟩
theorem sz3 : Sz Tryz.prog 3 1 := fun w => by kernel_rfl
theorem sc3 : Sc Tryz.prog 3 := fun w => ⟨by kernel_rfl, by kernel_rfl⟩
theorem one_int {xs : List Int} : ∀ u ∈ (xs.map e3).flatten, u.oneCell' = true := by
  intro u hu
  obtain ⟨r, hr, hu⟩ := List.mem_flatten.1 hu
  obtain ⟨x, _, rfl⟩ := List.mem_map.1 hr
  simp only [e3, List.mem_singleton] at hu
  subst hu; rfl
set_option maxHeartbeats 400000 in
theorem clone_spec {a : Option Addr} {len cap : Nat} {xs : List Int} (hb : len ≤ 1099511627776) : Spec Tryz.prog 81 [.slice a len cap] [rsl 1 a len cap (xs.map e3)] [] (fun v D' M' => ∃ (a' : Option Addr) (len' cap' : Nat), v = .slice a' len' cap' ∧ (len' = len) ∧ D' = [] ∧ M' = [own 1 3 a' len' cap' (xs.map e3)]) := by
  refine Spec.intro (n := 8) Tryz.func81 rfl rfl (by decide) (Nat.le_of_ble_eq_true rfl) rfl (fun _ => qA) (fun _ => qA) ?_
  intro σ D M
  refine T.rslLen2 qM (fun hl hc => ?_)
  rw [List.length_map] at hl
  refine T.seq ?_
  refine T.region ?_
  refine L.assign rfl rfl ?_
  refine L.nil ?_
  refine T.thenN ?_
  refine T.seq ?_
  refine T.seq ?_
  refine T.region ?_
  refine L.move rfl rfl ?_
  refine L.eqlSl rfl Tryz.underlying39 rfl rfl ?_
  refine L.nil ?_
  refine T.thenN ?_
  refine T.cond rfl (fun h4 => ?_) (fun h4 => ?_)
  · try simp only [decide_eq_true_eq, decide_eq_false_iff_not, Bool.not_eq_true', Bool.not_eq_false', Bool.and_eq_true, Bool.or_eq_true] at h4
    obtain rfl : a = none := by simpa using h4
    refine T.rslNil qM (fun h0 => ?_)
    obtain rfl : xs = [] := by simpa using h0
    obtain rfl : len = 0 := by simpa using hl.symm
    refine T.newOwn (sz := 1) (e := 3) ?_
    refine T.eqv qP (show own 1 3 none 0 0 [] = own 1 3 none 0 0 (([] : List Int).map e3) from rfl) ?_
    refine T.seq ?_
    refine T.region ?_
    refine L.assign rfl rfl ?_
    refine L.nil ?_
    refine T.thenN ?_
    refine T.ret ?_
    refine T.thenR ?_
    exact T.ret1 rfl rfl ⟨_, _, _, rfl, rfl, rfl, rfl⟩ qD qF
  · try simp only [decide_eq_true_eq, decide_eq_false_iff_not, Bool.not_eq_true', Bool.not_eq_false', Bool.and_eq_true, Bool.or_eq_true] at h4
    refine T.skip ?_
    refine T.thenN ?_
    refine T.seq ?_
    refine T.region ?_
    refine L.buildSlice rfl bs39 (by decide) (BP.doneE (out := []) rfl) (fun b5 => ?_)
    refine L.toOwn (len := 0) qP (rows := []) (sz := 1) (by rfl) rfl (by simp) ?_
    refine L.move rfl rfl ?_
    refine L.appendR rfl Tryz.underlying39 Tryz.underlying39 el3 rfl rfl qP (rd_D qM) one_int qI qI (fun a7 c7 => ?_)
    refine L.assign rfl rfl ?_
    refine L.nil ?_
    simp only [Nat.zero_add, List.nil_append]
    refine T.thenN ?_
    refine T.ret ?_
    exact T.ret1 rfl rfl ⟨_, _, _, rfl, by simp, rfl, rfl⟩ qD qF
set_option maxHeartbeats 400000 in
theorem idxf_spec {a : Option Addr} {len cap g : Nat} {caps : List Value} {Ac : Asn} {p : Int → Bool} {xs : List Int} (hp : ∀ x : Int, Spec Tryz.prog g ([.int .i64 x] ++ caps) [] [Ac] (fun u D' M' => u = .bool (p x) ∧ D' = [] ∧ M' = [Ac])) (hb : len ≤ 4611686018427387904) : Spec Tryz.prog 92 [.slice a len cap, fnV g caps] [rsl 1 a len cap (xs.map e3)] [Ac] (fun v D' M' => v = .int .i64 (idxF p xs) ∧ D' = [] ∧ M' = [Ac]) := by
  refine Spec.intro (n := 19) Tryz.func92 rfl rfl (by decide) (Nat.le_of_ble_eq_true rfl) rfl (fun _ => qA) (fun _ => qA) ?_
  intro σ D M
  refine T.rslLen2 qM (fun hl hc => ?_)
  rw [List.length_map] at hl
  refine T.seq ?_
  refine T.region ?_
  refine L.assign rfl rfl ?_
  refine L.nil ?_
  refine T.thenN ?_
  refine T.seq ?_
  refine T.seq ?_
  refine T.region ?_
  refine L.move rfl rfl ?_
  refine L.lenSl rfl Tryz.underlying39 rfl ?_
  refine L.move rfl rfl ?_
  refine L.nil ?_
  refine T.thenN ?_
  refine T.block ?_
  refine T.loop (fun K' D' M' μ => ∃ (k : Nat), (k ≤ len ∧ ∀ y ∈ xs.take k, p y = false) ∧ K' = [(8, .int .i64 k)] ∧ D' = [] ∧ M' = [Ac] ∧ μ = len - k) (.cons (t := 0) rfl <| .cons (t := 1) rfl <| .cons (t := 7) rfl <| SubK.nil _) (⟨0, ⟨by omega, by simp⟩, rfl, rfl, rfl, rfl⟩) (.cons (t := 8) rfl <| SubK.nil _) qD qS ?_
  rintro K1 D1 M1 m1 ⟨k, ⟨hk, hall⟩, rfl, rfl, rfl, rfl⟩
  refine T.norm3 qA qA qA ?_
  refine T.seq ?_
  refine T.region ?_
  refine L.ltI rfl rfl rfl ?_
  refine L.nil ?_
  refine T.thenN ?_
  refine T.seq ?_
  refine T.cond rfl (fun h9 => ?_) (fun h9 => ?_)
  · try simp only [decide_eq_true_eq, decide_eq_false_iff_not, Bool.not_eq_true', Bool.not_eq_false', Bool.and_eq_true, Bool.or_eq_true] at h9
    refine T.skip ?_
    refine T.thenN ?_
    refine T.seq ?_
    refine T.block ?_
    refine T.seq ?_
    refine T.region ?_
    refine L.move rfl rfl ?_
    refine L.assign rfl rfl ?_
    refine L.nil ?_
    refine T.thenN ?_
    refine T.seq ?_
    refine T.region ?_
    refine L.move rfl rfl ?_
    refine L.move rfl rfl ?_
    refine L.move rfl rfl ?_
    have hgd : xs[k]? = some (gd xs k) := gd_get (by omega)
    refine L.idx (i := k) rfl Tryz.underlying39 sz3 rfl rfl qM (by first | rfl | omega | (simp; done)) qG (fun b14 o14 => ?_)
    refine L.load rfl sc3 rfl qC ?_
    refine L.callVF rfl rfl (evs.cons rfl <| evs.nil) qD qS (hp (gd xs k)) (by rintro u D1 M1 ⟨rfl, rfl, rfl⟩; exact ⟨rfl, _, qA, qF⟩) ?_
    refine L.nil ?_
    refine T.thenN ?_
    refine T.cond rfl (fun h16 => ?_) (fun h16 => ?_)
    · try simp only [decide_eq_true_eq, decide_eq_false_iff_not, Bool.not_eq_true', Bool.not_eq_false', Bool.and_eq_true, Bool.or_eq_true] at h16
      refine T.seq ?_
      refine T.region ?_
      refine L.move rfl rfl ?_
      refine L.assign rfl rfl ?_
      refine L.nil ?_
      refine T.thenN ?_
      refine T.ret ?_
      refine T.blkR ?_
      refine T.thenR ?_
      refine T.thenR ?_
      refine T.blkR ?_
      refine T.thenR ?_
      exact T.ret1 rfl rfl ⟨by rw [idxF_at hall hgd h16], rfl, rfl⟩ qD qF
    · try simp only [decide_eq_true_eq, decide_eq_false_iff_not, Bool.not_eq_true', Bool.not_eq_false', Bool.and_eq_true, Bool.or_eq_true] at h16
      refine T.skip ?_
      refine T.blkN ?_
      refine T.thenN ?_
      refine T.region ?_
      refine L.addN rfl rfl rfl (by omega) ?_
      refine L.move rfl rfl ?_
      refine L.nil ?_
      refine T.thenN ?_
      exact T.back ⟨k + 1, ⟨by omega, all_next hall (by omega) h16⟩, rfl, rfl, rfl, rfl⟩ qI (.cons (t := 8) rfl <| SubK.nil _) (.cons (t := 0) rfl <| .cons (t := 1) rfl <| .cons (t := 7) rfl <| SubK.nil _) qD qD qF
  · try simp only [decide_eq_true_eq, decide_eq_false_iff_not, Bool.not_eq_true', Bool.not_eq_false', Bool.and_eq_true, Bool.or_eq_true] at h9
    obtain rfl : k = len := by omega
    refine T.exit ?_
    refine T.thenX ?_
    refine T.thenX ?_
    refine T.blkX ?_
    refine T.thenN ?_
    refine T.seq ?_
    refine T.region ?_
    refine L.assign rfl rfl ?_
    refine L.nil ?_
    refine T.thenN ?_
    refine T.ret ?_
    exact T.ret1 rfl rfl ⟨by rw [idxF_none (fun y hy => hall y (by rw [List.take_of_length_le (by omega)]; exact hy))], rfl, rfl⟩ qD qF
set_option maxHeartbeats 400000 in
theorem delf_spec {a : Option Addr} {len cap g : Nat} {caps : List Value} {Ac : Asn} {p : Int → Bool} {xs : List Int} (hp : ∀ x : Int, Spec Tryz.prog g ([.int .i64 x] ++ caps) [] [Ac] (fun u D' M' => u = .bool (p x) ∧ D' = [] ∧ M' = [Ac])) (hb : len ≤ 4611686018427387904) : Spec Tryz.prog 80 [.slice a len cap, fnV g caps] [] [own 1 3 a len cap ((xs).map e3), Ac] (fun v D' M' => ∃ (a' : Option Addr) (len' cap' : Nat), v = .slice a' len' cap' ∧ D' = [] ∧ M' = [own 1 3 a' len' cap' ((xs.filter (fun x => !p x)).map e3), Ac]) := by
  refine Spec.intro (n := 42) Tryz.func80 rfl rfl (by decide) (Nat.le_of_ble_eq_true rfl) rfl (fun _ => qA) (fun _ => qA) ?_
  intro σ D M
  refine T.ownLen qM (fun hl hc => ?_)
  rw [List.length_map] at hl
  refine T.seq ?_
  refine T.region ?_
  refine L.assign rfl rfl ?_
  refine L.nil ?_
  refine T.thenN ?_
  refine T.seq ?_
  refine T.region ?_
  refine L.move rfl rfl ?_
  refine L.move rfl rfl ?_
  refine L.callB1 rfl (evs.cons rfl <| evs.cons rfl <| evs.nil) qS qP (fun z H => rsl_of_own H) (idxf_spec hp hb) ?_
  rintro _ _ _ ⟨rfl, rfl, rfl⟩
  refine L.norm AppL.nil qA ?_
  refine L.assign rfl rfl ?_
  refine L.nil ?_
  refine T.thenN ?_
  refine T.seq ?_
  refine T.seq ?_
  refine T.region ?_
  refine L.move rfl rfl ?_
  refine L.eqI rfl rfl rfl ?_
  refine L.nil ?_
  refine T.thenN ?_
  refine T.cond rfl (fun h12 => ?_) (fun h12 => ?_)
  · try simp only [decide_eq_true_eq, decide_eq_false_iff_not, Bool.not_eq_true', Bool.not_eq_false', Bool.and_eq_true, Bool.or_eq_true] at h12
    have hf := idxF_m1 h12
    refine T.ownEq a ((xs.filter (fun x => !p x)).map e3) qP (by rw [hf]) ?_
    refine T.seq ?_
    refine T.region ?_
    refine L.move rfl rfl ?_
    refine L.assign rfl rfl ?_
    refine L.nil ?_
    refine T.thenN ?_
    refine T.ret ?_
    refine T.thenR ?_
    exact T.ret1 rfl rfl ⟨_, _, _, rfl, rfl, rfl⟩ qD qF
  · try simp only [decide_eq_true_eq, decide_eq_false_iff_not, Bool.not_eq_true', Bool.not_eq_false', Bool.and_eq_true, Bool.or_eq_true] at h12
    obtain ⟨k, hk, hkl, hkf⟩ := idxF_k h12
    rw [hk]
    refine T.ownNe qM (by omega) (fun b o ha => ?_)
    subst ha
    refine T.skip ?_
    refine T.thenN ?_
    refine T.seq ?_
    refine T.seq ?_
    refine T.region ?_
    refine L.move rfl rfl ?_
    refine L.addN rfl rfl rfl (by omega) ?_
    refine L.assign rfl rfl ?_
    refine L.nil ?_
    refine T.thenN ?_
    refine T.block ?_
    refine T.loop (fun K' D' M' μ => ∃ (i j : Nat) (ys : List Int), (DelI p xs ys i j) ∧ K' = [(5, .int .i64 i), (6, .int .i64 j)] ∧ D' = [] ∧ M' = [own 1 3 (some ⟨b, o, none⟩) len cap ((ys).map e3), Ac] ∧ μ = xs.length - j) (.cons (t := 0) rfl <| .cons (t := 1) rfl <| SubK.nil _) (⟨k, k + 1, xs, deli_0 hkl hkf, rfl, rfl, rfl, rfl⟩) (.cons (t := 5) rfl <| .cons (t := 6) rfl <| SubK.nil _) qD qS ?_
    rintro K1 D1 M1 m1 ⟨i, j, ys, hI, rfl, rfl, rfl, rfl⟩
    refine T.norm3 qA qA qA ?_
    have hI1 := hI.1
    have hI2 := hI.2.1
    have hI3 := hI.2.2.1
    refine T.seq ?_
    refine T.seq ?_
    refine T.region ?_
    refine L.move rfl rfl ?_
    refine L.move rfl rfl ?_
    refine L.lenSl rfl Tryz.underlying39 rfl ?_
    refine L.ltI rfl rfl rfl ?_
    refine L.nil ?_
    refine T.thenN ?_
    refine T.cond rfl (fun h19 => ?_) (fun h19 => ?_)
    · try simp only [decide_eq_true_eq, decide_eq_false_iff_not, Bool.not_eq_true', Bool.not_eq_false', Bool.and_eq_true, Bool.or_eq_true] at h19
      refine T.skip ?_
      refine T.thenN ?_
      refine T.seq ?_
      refine T.block ?_
      refine T.seq ?_
      refine T.region ?_
      refine L.move rfl rfl ?_
      refine L.move rfl rfl ?_
      have hgd : ys[j]? = some (gd xs j) := deli_get hI (by omega)
      refine L.idxG (i := j) rfl Tryz.underlying39 sz3 rfl rfl (by first | rfl | omega | (simp; done)) qI ?_
      refine L.load rfl sc3 rfl qC ?_
      refine L.assign rfl rfl ?_
      refine L.nil ?_
      refine T.thenN ?_
      refine T.seq ?_
      refine T.region ?_
      refine L.move rfl rfl ?_
      refine L.move rfl rfl ?_
      refine L.callVF rfl rfl (evs.cons rfl <| evs.nil) qD qS (hp (gd xs j)) (by rintro u D1 M1 ⟨rfl, rfl, rfl⟩; exact ⟨rfl, _, qA, qF⟩) ?_
      refine L.notB rfl rfl ?_
      refine L.nil ?_
      refine T.thenN ?_
      refine T.cond rfl (fun h29 => ?_) (fun h29 => ?_)
      · try simp only [decide_eq_true_eq, decide_eq_false_iff_not, Bool.not_eq_true', Bool.not_eq_false', Bool.and_eq_true, Bool.or_eq_true] at h29
        have hpv : p (gd xs j) = false := by simpa using h29
        refine T.seq ?_
        refine T.region ?_
        refine L.move rfl rfl ?_
        refine L.move rfl rfl ?_
        refine L.move rfl rfl ?_
        refine L.idxG (i := i) rfl Tryz.underlying39 sz3 rfl rfl (by first | rfl | omega | (simp; done)) qI ?_
        refine L.storeO (i) sc3 rfl (by first | rfl | omega | (simp; done)) rfl rfl qP qI ?_
        refine L.nil ?_
        refine T.thenN ?_
        refine T.region ?_
        refine L.move rfl rfl ?_
        refine L.addN rfl rfl rfl (by omega) ?_
        refine L.assign rfl rfl ?_
        refine L.nil ?_
        refine T.blkN ?_
        refine T.thenN ?_
        refine T.region ?_
        refine L.move rfl rfl ?_
        refine L.addN rfl rfl rfl (by omega) ?_
        refine L.assign rfl rfl ?_
        refine L.nil ?_
        refine T.thenN ?_
        refine T.ownEq _ ((ys.set i (gd xs j)).map e3) qP (by rw [List.map_set]) ?_
        exact T.back ⟨i + 1, j + 1, _, deli_yes hI (by omega) hpv, rfl, rfl, rfl, rfl⟩ qI (.cons (t := 5) rfl <| .cons (t := 6) rfl <| SubK.nil _) (.cons (t := 0) rfl <| .cons (t := 1) rfl <| SubK.nil _) qD qD qF
      · try simp only [decide_eq_true_eq, decide_eq_false_iff_not, Bool.not_eq_true', Bool.not_eq_false', Bool.and_eq_true, Bool.or_eq_true] at h29
        have hpv : p (gd xs j) = true := by simpa using h29
        refine T.skip ?_
        refine T.blkN ?_
        refine T.thenN ?_
        refine T.region ?_
        refine L.move rfl rfl ?_
        refine L.addN rfl rfl rfl (by omega) ?_
        refine L.assign rfl rfl ?_
        refine L.nil ?_
        refine T.thenN ?_
        exact T.back ⟨i, j + 1, _, deli_no hI (by omega) hpv, rfl, rfl, rfl, rfl⟩ qI (.cons (t := 5) rfl <| .cons (t := 6) rfl <| SubK.nil _) (.cons (t := 0) rfl <| .cons (t := 1) rfl <| SubK.nil _) qD qD qF
    · try simp only [decide_eq_true_eq, decide_eq_false_iff_not, Bool.not_eq_true', Bool.not_eq_false', Bool.and_eq_true, Bool.or_eq_true] at h19
      obtain rfl : j = xs.length := by omega
      have hfe := deli_end hI
      refine T.exit ?_
      refine T.thenX ?_
      refine T.thenX ?_
      refine T.blkX ?_
      refine T.thenN ?_
      refine T.seq ?_
      refine T.region ?_
      refine L.move rfl rfl ?_
      refine L.move rfl rfl ?_
      refine L.sliceSl rfl Tryz.underlying39 sz3 rfl (Bd.at (x := i) rfl (by first | rfl | omega | (simp; done))) Bd.no qI qI ?_
      refine L.clearO (i := i) (sz := 1) Tryz.underlying39 zv3 rfl rfl qO rfl qP qI qI ?_
      refine L.nil ?_
      refine T.thenN ?_
      refine T.seq ?_
      refine T.region ?_
      refine L.move rfl rfl ?_
      refine L.move rfl rfl ?_
      refine L.sliceTo rfl Tryz.underlying39 sz3 rfl (Bd.at (x := i) rfl (by first | rfl | omega | (simp; done))) qI ?_
      refine L.assign rfl rfl ?_
      refine L.nil ?_
      refine T.ownTo (h := i) qP (by omega) ?_
      refine T.ownEq _ ((xs.filter (fun x => !p x)).map e3) qP (by rw [take_tail (by simp; omega), ← List.map_take, hfe]) ?_
      refine T.thenN ?_
      refine T.ret ?_
      exact T.ret1 rfl rfl ⟨_, _, _, rfl, rfl, rfl⟩ qD qF
set_option maxHeartbeats 400000 in
theorem inss_spec {a : Option Addr} {len cap g : Nat} {caps : List Value} {Ac : Asn} {cf : Int → Int → Int} {xs : List Int} (hO : SWOc cf) (hc : ∀ x y : Int, Spec Tryz.prog g ([.int .i64 x, .int .i64 y] ++ caps) [] [Ac] (fun u D' M' => u = .int .i64 (cf x y) ∧ D' = [] ∧ M' = [Ac])) (hb : len ≤ 4611686018427387904) : Spec Tryz.prog 102 [.slice a len cap, .int .i64 0, .int .i64 (len : Int), fnV g caps] [] [own 1 3 a len cap ((xs).map e3), Ac] (fun v D' M' => ∃ (ys : List Int), v = .tuple #[] ∧ (ys.Perm xs) ∧ (SortTo cf ys len) ∧ D' = [] ∧ M' = [own 1 3 a len cap ((ys).map e3), Ac]) := by
  refine Spec.intro (n := 53) Tryz.func102 rfl rfl (by decide) (Nat.le_of_ble_eq_true rfl) rfl (fun _ => qA) (fun _ => qA) ?_
  intro σ D M
  refine T.ownLen qM (fun hl hcc => ?_)
  rw [List.length_map] at hl
  refine T.seq ?_
  refine T.region ?_
  refine L.move rfl rfl ?_
  refine L.addN rfl rfl rfl (by omega) ?_
  refine L.assign rfl rfl ?_
  refine L.nil ?_
  refine T.thenN ?_
  refine T.block ?_
  refine T.loop (fun K' D' M' μ => ∃ (i : Nat) (ys : List Int), ((1 ≤ i ∧ (i ≤ len ∨ i = 1)) ∧ ys.Perm xs ∧ SortTo cf ys i) ∧ K' = [(8, .int .i64 i)] ∧ D' = [] ∧ M' = [own 1 3 a len cap ((ys).map e3), Ac] ∧ μ = len - i) (.cons (t := 0) rfl <| .cons (t := 1) rfl <| .cons (t := 2) rfl <| .cons (t := 3) rfl <| SubK.nil _) (⟨1, xs, ⟨by omega, .refl _, fun p q h1 h2 => by omega⟩, rfl, rfl, rfl, rfl⟩) (.cons (t := 8) rfl <| SubK.nil _) qD qS ?_
  rintro K1 D1 M1 m1 ⟨i, ys, ⟨⟨hi1, hi2⟩, hp, hs⟩, rfl, rfl, rfl, rfl⟩
  refine T.norm3 qA qA qA ?_
  have hyl := hp.length_eq
  refine T.seq ?_
  refine T.seq ?_
  refine T.region ?_
  refine L.move rfl rfl ?_
  refine L.move rfl rfl ?_
  refine L.ltI rfl rfl rfl ?_
  refine L.nil ?_
  refine T.thenN ?_
  refine T.cond rfl (fun h14 => ?_) (fun h14 => ?_)
  · try simp only [decide_eq_true_eq, decide_eq_false_iff_not, Bool.not_eq_true', Bool.not_eq_false', Bool.and_eq_true, Bool.or_eq_true] at h14
    refine T.ownNe qM (by omega) (fun b o ha => ?_)
    subst ha
    refine T.skip ?_
    refine T.thenN ?_
    refine T.seq ?_
    refine T.block ?_
    refine T.seq ?_
    refine T.region ?_
    refine L.move rfl rfl ?_
    refine L.assign rfl rfl ?_
    refine L.nil ?_
    refine T.thenN ?_
    refine T.block ?_
    refine T.loop (fun K' D' M' μ => ∃ (j : Nat) (zs : List Int), (j ≤ i ∧ zs.Perm xs ∧ SortBut cf zs i j) ∧ K' = [(9, .int .i64 j)] ∧ D' = [] ∧ M' = [own 1 3 (some ⟨b, o, none⟩) len cap ((zs).map e3), Ac] ∧ μ = 2 * j) (.cons (t := 0) rfl <| .cons (t := 1) rfl <| .cons (t := 2) rfl <| .cons (t := 3) rfl <| .cons (t := 8) rfl <| SubK.nil _) (⟨i, ys, ⟨by omega, hp, sortBut_0 hs⟩, rfl, rfl, rfl, rfl⟩) (.cons (t := 9) rfl <| SubK.nil _) qD qS ?_
    rintro K1 D1 M1 m1 ⟨j, zs, ⟨hj, hp2, hb2⟩, rfl, rfl, rfl, rfl⟩
    refine T.norm3 qA qA qA ?_
    have hzl := hp2.length_eq
    refine T.seq ?_
    refine T.seq ?_
    refine T.regionQ (by kernel_rfl) (by kernel_rfl) ?_
    refine L.move rfl rfl ?_
    refine L.move rfl rfl ?_
    refine L.gtI rfl rfl rfl ?_
    refine L.move rfl rfl ?_
    refine L.part (t := 21) rfl (fun h1 => ?_) (fun h1 => ?_)
    · try simp only [decide_eq_true_eq, decide_eq_false_iff_not, Bool.not_eq_true', Bool.not_eq_false', Bool.and_eq_true, Bool.or_eq_true] at h1
      refine L.guardT (dj := 21) rfl rfl rfl ?_
      refine L.move rfl rfl ?_
      refine L.guardT (dj := 21) rfl rfl rfl ?_
      refine L.move rfl rfl ?_
      refine L.guardT (dj := 21) rfl rfl rfl ?_
      refine L.move rfl rfl ?_
      refine L.guardT (dj := 21) rfl rfl rfl ?_
      refine L.idxG (i := j) rfl Tryz.underlying39 sz3 rfl rfl (by first | rfl | omega | (simp; done)) qI ?_
      have hg1 : zs[j]? = some (gd zs j) := gd_get (by omega)
      refine L.guardT (dj := 21) rfl rfl rfl ?_
      refine L.load rfl sc3 rfl qC ?_
      refine L.guardT (dj := 21) rfl rfl rfl ?_
      refine L.move rfl rfl ?_
      refine L.guardT (dj := 21) rfl rfl rfl ?_
      refine L.move rfl rfl ?_
      refine L.guardT (dj := 21) rfl rfl rfl ?_
      refine L.subN rfl rfl rfl (by omega) ?_
      rw [show (j : Int) - 1 = ((j - 1 : Nat) : Int) by omega]
      refine L.guardT (dj := 21) rfl rfl rfl ?_
      refine L.idxG (i := j - 1) rfl Tryz.underlying39 sz3 rfl rfl (by first | rfl | omega | (simp; done)) qI ?_
      have hg2 : zs[j - 1]? = some (gd zs (j - 1)) := gd_get (by omega)
      refine L.guardT (dj := 21) rfl rfl rfl ?_
      refine L.load rfl sc3 rfl qC ?_
      refine L.guardT (dj := 21) rfl rfl rfl ?_
      refine L.callVF rfl rfl (evs.cons rfl <| evs.cons rfl <| evs.nil) qD qS (hc (gd zs j) (gd zs (j - 1))) (by rintro u D1 M1 ⟨rfl, rfl, rfl⟩; exact ⟨rfl, _, qA, qF⟩) ?_
      refine L.guardT (dj := 21) rfl rfl rfl ?_
      refine L.ltI rfl rfl rfl ?_
      refine L.pickT rfl rfl rfl ?_
      refine L.nilQ ?_
      refine T.thenN ?_
      refine T.cond rfl (fun h34 => ?_) (fun h34 => ?_)
      · try simp only [decide_eq_true_eq, decide_eq_false_iff_not, Bool.not_eq_true', Bool.not_eq_false', Bool.and_eq_true, Bool.or_eq_true] at h34
        refine T.skip ?_
        refine T.thenN ?_
        refine T.seq ?_
        refine T.block ?_
        have hg1 : zs[j]? = some (gd zs j) := gd_get (by omega)
        have hg2 : zs[j - 1]? = some (gd zs (j - 1)) := gd_get (by omega)
        refine T.regionA (clsL [1, 1, 1, 1, 1, 1, 1, 1, 1, 0, 1, 1, 1, 0, 1, 2, 1, 2]) (by kernel_rfl) ?_
        refine A.takeP (i := 0) rfl rfl rfl rfl (by kernel_rfl) (by kernel_rfl) (by kernel_rfl) rfl qD ?_
        refine L.move rfl rfl ?_
        refine A.took ?_
        refine A.takeP (i := 1) rfl rfl rfl rfl (by kernel_rfl) (by kernel_rfl) (by kernel_rfl) rfl qD ?_
        refine L.move rfl rfl ?_
        refine A.took ?_
        refine A.takeP (i := 2) rfl rfl rfl rfl (by kernel_rfl) (by kernel_rfl) (by kernel_rfl) rfl qD ?_
        refine L.move rfl rfl ?_
        refine A.took ?_
        refine A.takeP (i := 3) rfl rfl rfl rfl (by kernel_rfl) (by kernel_rfl) (by kernel_rfl) rfl qD ?_
        refine L.move rfl rfl ?_
        refine A.took ?_
        refine A.takeP (i := 4) rfl rfl rfl rfl (by kernel_rfl) (by kernel_rfl) (by kernel_rfl) rfl qD ?_
        refine L.subN rfl rfl rfl (by omega) ?_
        rw [show (j : Int) - 1 = ((j - 1 : Nat) : Int) by omega]
        refine A.took ?_
        refine A.takeP (i := 5) rfl rfl rfl rfl (by kernel_rfl) (by kernel_rfl) (by kernel_rfl) rfl qD ?_
        refine L.move rfl rfl ?_
        refine A.took ?_
        refine A.takeP (i := 6) rfl rfl rfl rfl (by kernel_rfl) (by kernel_rfl) (by kernel_rfl) rfl qD ?_
        refine L.move rfl rfl ?_
        refine A.took ?_
        refine A.takeP (i := 7) rfl rfl rfl rfl (by kernel_rfl) (by kernel_rfl) (by kernel_rfl) rfl qD ?_
        refine L.subN rfl rfl rfl (by omega) ?_
        rw [show (j : Int) - 1 = ((j - 1 : Nat) : Int) by omega]
        refine A.took ?_
        refine A.takeP (i := 8) rfl rfl rfl rfl (by kernel_rfl) (by kernel_rfl) (by kernel_rfl) rfl qD ?_
        refine L.idxG (i := j - 1) rfl Tryz.underlying39 sz3 rfl rfl (by first | rfl | omega | (simp; done)) qI ?_
        refine A.took ?_
        refine A.takeP (i := 10) rfl rfl rfl rfl (by kernel_rfl) (by kernel_rfl) (by kernel_rfl) rfl qD ?_
        refine L.move rfl rfl ?_
        refine A.took ?_
        refine A.takeP (i := 11) rfl rfl rfl rfl (by kernel_rfl) (by kernel_rfl) (by kernel_rfl) rfl qD ?_
        refine L.move rfl rfl ?_
        refine A.took ?_
        refine A.takeP (i := 12) rfl rfl rfl rfl (by kernel_rfl) (by kernel_rfl) (by kernel_rfl) rfl qD ?_
        refine L.idxG (i := j) rfl Tryz.underlying39 sz3 rfl rfl (by first | rfl | omega | (simp; done)) qI ?_
        refine A.took ?_
        refine A.take (i := 9) rfl rfl rfl rfl (by kernel_rfl) (by kernel_rfl) (by kernel_rfl) (by kernel_rfl) rfl qD qF ?_
        refine L.load rfl sc3 rfl qC ?_
        refine A.took ?_
        refine A.take (i := 13) rfl rfl rfl rfl (by kernel_rfl) (by kernel_rfl) (by kernel_rfl) (by kernel_rfl) rfl qD qF ?_
        refine L.load rfl sc3 rfl qC ?_
        refine A.took ?_
        refine A.takeP (i := 14) rfl rfl rfl rfl (by kernel_rfl) (by kernel_rfl) (by kernel_rfl) rfl qD ?_
        refine L.idxG (i := j) rfl Tryz.underlying39 sz3 rfl rfl (by first | rfl | omega | (simp; done)) qI ?_
        refine A.took ?_
        refine A.branch (is := [15]) (by kernel_rfl) (by decide) (Each.cons rfl ?_ <| Each.nil) 
        refine L.storeO (j) sc3 rfl (by first | rfl | omega | (simp; done)) rfl rfl qP qI ?_
        refine A.backT rfl qD ?_
        refine A.takeP (i := 16) rfl rfl rfl rfl (by kernel_rfl) (by kernel_rfl) (by kernel_rfl) rfl qD ?_
        refine L.idxG (i := j - 1) rfl Tryz.underlying39 sz3 rfl rfl (by first | rfl | omega | (simp; done)) qI ?_
        refine A.took ?_
        refine A.branch (is := [17]) (by kernel_rfl) (by decide) (Each.cons rfl ?_ <| Each.nil) 
        refine L.storeO (j - 1) sc3 rfl (by first | rfl | omega | (simp; done)) rfl rfl qP qI ?_
        refine A.backT rfl qD ?_
        refine A.done (by kernel_rfl) ?_
        refine T.blkN ?_
        refine T.thenN ?_
        refine T.region ?_
        refine L.move rfl rfl ?_
        refine L.subN rfl rfl rfl (by omega) ?_
        rw [show (j : Int) - 1 = ((j - 1 : Nat) : Int) by omega]
        refine L.assign rfl rfl ?_
        refine L.nil ?_
        refine T.thenN ?_
        refine T.ownEq _ ((swp zs j).map e3) qP (by rw [swp, List.map_set, List.map_set]) ?_
        exact T.back ⟨j - 1, swp zs j, ⟨by omega, (swp_perm (by omega) (by omega)).trans hp2, sortBut_swp hb2 hO (by omega) hj (by omega) h34⟩, rfl, rfl, rfl, rfl⟩ qI (.cons (t := 9) rfl <| SubK.nil _) (.cons (t := 0) rfl <| .cons (t := 1) rfl <| .cons (t := 2) rfl <| .cons (t := 3) rfl <| .cons (t := 8) rfl <| SubK.nil _) qD qD qF
      · try simp only [decide_eq_true_eq, decide_eq_false_iff_not, Bool.not_eq_true', Bool.not_eq_false', Bool.and_eq_true, Bool.or_eq_true] at h34
        have hend := sortBut_end hb2 hO hj (by omega)
        refine T.exit ?_
        refine T.thenX ?_
        refine T.thenX ?_
        refine T.blkX ?_
        refine T.blkN ?_
        refine T.thenN ?_
        refine T.region ?_
        refine L.move rfl rfl ?_
        refine L.addN rfl rfl rfl (by omega) ?_
        refine L.assign rfl rfl ?_
        refine L.nil ?_
        refine T.thenN ?_
        exact T.back ⟨i + 1, _, ⟨by omega, hp2, hend⟩, rfl, rfl, rfl, rfl⟩ qI (.cons (t := 8) rfl <| SubK.nil _) (.cons (t := 0) rfl <| .cons (t := 1) rfl <| .cons (t := 2) rfl <| .cons (t := 3) rfl <| SubK.nil _) qD qD qF
    · try simp only [decide_eq_true_eq, decide_eq_false_iff_not, Bool.not_eq_true', Bool.not_eq_false', Bool.and_eq_true, Bool.or_eq_true] at h1
      have hend := sortBut_end hb2 hO hj (by omega)
      refine L.guardF (dj := 21) (c := false) rfl rfl rfl rfl rfl (by decide) ?_
      refine L.guardF (dj := 21) (c := false) rfl rfl rfl rfl rfl (by decide) ?_
      refine L.guardF (dj := 21) (c := false) rfl rfl rfl rfl rfl (by decide) ?_
      refine L.guardF (dj := 21) (c := false) rfl rfl rfl rfl rfl (by decide) ?_
      have hg1 : zs[j]? = some (gd zs j) := gd_get (by omega)
      refine L.guardF (dj := 21) (c := false) rfl rfl rfl rfl rfl (by decide) ?_
      refine L.guardF (dj := 21) (c := false) rfl rfl rfl rfl rfl (by decide) ?_
      refine L.guardF (dj := 21) (c := false) rfl rfl rfl rfl rfl (by decide) ?_
      refine L.guardF (dj := 21) (c := false) rfl rfl rfl rfl rfl (by decide) ?_
      refine L.guardF (dj := 21) (c := false) rfl rfl rfl rfl rfl (by decide) ?_
      have hg2 : zs[j - 1]? = some (gd zs (j - 1)) := gd_get (by omega)
      refine L.guardF (dj := 21) (c := false) rfl rfl rfl rfl rfl (by decide) ?_
      refine L.guardF (dj := 21) (c := false) rfl rfl rfl rfl rfl (by decide) ?_
      refine L.guardF (dj := 21) (c := false) rfl rfl rfl rfl rfl (by decide) ?_
      refine L.pickF rfl rfl rfl ?_
      refine L.nilQ ?_
      refine T.thenN ?_
      refine T.condF rfl rfl ?_
      refine T.exit ?_
      refine T.thenX ?_
      refine T.thenX ?_
      refine T.blkX ?_
      refine T.blkN ?_
      refine T.thenN ?_
      refine T.region ?_
      refine L.move rfl rfl ?_
      refine L.addN rfl rfl rfl (by omega) ?_
      refine L.assign rfl rfl ?_
      refine L.nil ?_
      refine T.thenN ?_
      exact T.back ⟨i + 1, _, ⟨by omega, hp2, hend⟩, rfl, rfl, rfl, rfl⟩ qI (.cons (t := 8) rfl <| SubK.nil _) (.cons (t := 0) rfl <| .cons (t := 1) rfl <| .cons (t := 2) rfl <| .cons (t := 3) rfl <| SubK.nil _) qD qD qF
  · try simp only [decide_eq_true_eq, decide_eq_false_iff_not, Bool.not_eq_true', Bool.not_eq_false', Bool.and_eq_true, Bool.or_eq_true] at h14
    refine T.exit ?_
    refine T.thenX ?_
    refine T.thenX ?_
    refine T.blkX ?_
    exact T.retN (by simp) rfl ⟨ys, rfl, hp, sortTo_len hs hi2 (by omega), rfl, rfl⟩ qD qF
set_option maxHeartbeats 400000 in
theorem len64_spec {n : Nat} (hn : n ≤ 255) : Spec Tryz.prog 111 [.int .u64 (n : Int)] [] [] (fun v D' M' => ∃ (k : Int), v = .int .i64 k ∧ D' = [] ∧ M' = []) := by
  refine Spec.intro (n := 25) Tryz.func111 rfl rfl (by decide) (Nat.le_of_ble_eq_true rfl) rfl (fun _ => qA) (fun _ => qA) ?_
  intro σ D M
  refine T.seq ?_
  refine T.region ?_
  refine L.assign rfl rfl ?_
  refine L.nil ?_
  refine T.thenN ?_
  refine T.seq ?_
  refine T.seq ?_
  refine T.region ?_
  refine L.move rfl rfl ?_
  refine L.geI rfl rfl rfl ?_
  refine L.nil ?_
  refine T.thenN ?_
  refine T.condF rfl (decide_eq_false (by omega)) ?_
  refine T.skip ?_
  refine T.thenN ?_
  refine T.seq ?_
  refine T.seq ?_
  refine T.region ?_
  refine L.move rfl rfl ?_
  refine L.geI rfl rfl rfl ?_
  refine L.nil ?_
  refine T.thenN ?_
  refine T.cond rfl (fun h8 => ?_) (fun h8 => ?_)
  · try simp only [decide_eq_true_eq, decide_eq_false_iff_not, Bool.not_eq_true', Bool.not_eq_false', Bool.and_eq_true, Bool.or_eq_true] at h8
    refine T.seq ?_
    refine T.region ?_
    refine L.move rfl rfl ?_
    refine L.shrI rfl rfl rfl qI ?_
    refine L.assign rfl rfl ?_
    refine L.nil ?_
    refine T.thenN ?_
    refine T.region ?_
    refine L.move rfl rfl ?_
    refine L.addN rfl rfl rfl (by omega) ?_
    refine L.assign rfl rfl ?_
    refine L.nil ?_
    refine T.thenN ?_
    refine T.seq ?_
    refine T.seq ?_
    refine T.region ?_
    refine L.move rfl rfl ?_
    refine L.geI rfl rfl rfl ?_
    refine L.nil ?_
    refine T.thenN ?_
    refine T.condF rfl (decide_eq_false (by omega)) ?_
    refine T.skip ?_
    refine T.thenN ?_
    refine T.seq ?_
    refine T.region ?_
    refine L.move rfl rfl ?_
    refine L.move rfl rfl ?_
    refine L.convIY rfl Tryz.underlying173 Tryz.underlying5 rfl ?_
    refine L.indexS (i := (UInt8.ofNat ((n : Int) % 256).toNat).toNat) rfl Tryz.underlying9 rfl rfl (by first | rfl | omega | (simp; done)) (gd_get (Nat.lt_of_lt_of_eq (UInt8.toNat_lt _) (by rfl))) ?_
    refine L.convU8 rfl Tryz.underlying5 Tryz.underlying3 rfl (fun kk hk0 hk9 => ?_)
    refine L.addN rfl rfl rfl (by omega) ?_
    refine L.assign rfl rfl ?_
    refine L.nil ?_
    refine T.thenN ?_
    refine T.ret ?_
    exact T.ret1 rfl rfl ⟨_, rfl, rfl, rfl⟩ qD qF
  · try simp only [decide_eq_true_eq, decide_eq_false_iff_not, Bool.not_eq_true', Bool.not_eq_false', Bool.and_eq_true, Bool.or_eq_true] at h8
    refine T.skip ?_
    refine T.thenN ?_
    refine T.seq ?_
    refine T.seq ?_
    refine T.region ?_
    refine L.move rfl rfl ?_
    refine L.geI rfl rfl rfl ?_
    refine L.nil ?_
    refine T.thenN ?_
    refine T.condF rfl (decide_eq_false (by omega)) ?_
    refine T.skip ?_
    refine T.thenN ?_
    refine T.seq ?_
    refine T.region ?_
    refine L.move rfl rfl ?_
    refine L.move rfl rfl ?_
    refine L.convIY rfl Tryz.underlying173 Tryz.underlying5 rfl ?_
    refine L.indexS (i := (UInt8.ofNat ((n : Int) % 256).toNat).toNat) rfl Tryz.underlying9 rfl rfl (by first | rfl | omega | (simp; done)) (gd_get (Nat.lt_of_lt_of_eq (UInt8.toNat_lt _) (by rfl))) ?_
    refine L.convU8 rfl Tryz.underlying5 Tryz.underlying3 rfl (fun kk hk0 hk9 => ?_)
    refine L.addN rfl rfl rfl (by omega) ?_
    refine L.assign rfl rfl ?_
    refine L.nil ?_
    refine T.thenN ?_
    refine T.ret ?_
    exact T.ret1 rfl rfl ⟨_, rfl, rfl, rfl⟩ qD qF
set_option maxHeartbeats 400000 in
theorem len_spec {n : Nat} (hn : n ≤ 255) : Spec Tryz.prog 94 [.int .u64 (n : Int)] [] [] (fun v D' M' => ∃ (k : Int), v = .int .i64 k ∧ D' = [] ∧ M' = []) := by
  refine Spec.intro (n := 8) Tryz.func94 rfl rfl (by decide) (Nat.le_of_ble_eq_true rfl) rfl (fun _ => qA) (fun _ => qA) ?_
  intro σ D M
  refine T.seq ?_
  refine T.region ?_
  refine L.assign rfl rfl ?_
  refine L.nil ?_
  refine T.thenN ?_
  refine T.seq ?_
  refine T.condF rfl rfl ?_
  refine T.skip ?_
  refine T.thenN ?_
  refine T.seq ?_
  refine T.region ?_
  refine L.move rfl rfl ?_
  refine L.call rfl (evs.cons rfl <| evs.nil) qD qS (len64_spec qT) ?_
  rintro _ _ _ ⟨k, rfl, rfl, rfl⟩
  refine L.norm qA qA ?_
  refine L.assign rfl rfl ?_
  refine L.nil ?_
  refine T.thenN ?_
  refine T.ret ?_
  exact T.ret1 rfl rfl ⟨_, rfl, rfl, rfl⟩ qD qF
set_option maxHeartbeats 400000 in
theorem pdqs_spec {a : Option Addr} {len cap g : Nat} {caps : List Value} {Ac : Asn} {cf : Int → Int → Int} {xs : List Int} (hO : SWOc cf) (hc : ∀ x y : Int, Spec Tryz.prog g ([.int .i64 x, .int .i64 y] ++ caps) [] [Ac] (fun u D' M' => u = .int .i64 (cf x y) ∧ D' = [] ∧ M' = [Ac])) {k : Int} (hb : len ≤ 12) : Spec Tryz.prog 93 [.slice a len cap, .int .i64 0, .int .i64 (len : Int), .int .i64 k, fnV g caps] [] [own 1 3 a len cap ((xs).map e3), Ac] (fun v D' M' => ∃ (ys : List Int), v = .tuple #[] ∧ (ys.Perm xs) ∧ (SortTo cf ys len) ∧ D' = [] ∧ M' = [own 1 3 a len cap ((ys).map e3), Ac]) := by
  refine Spec.intro (n := 148) Tryz.func93 rfl rfl (by decide) (Nat.le_of_ble_eq_true rfl) rfl (fun _ => qA) (fun _ => qA) ?_
  intro σ D M
  refine T.seq ?_
  refine T.region ?_
  refine L.assign rfl rfl ?_
  refine L.nil ?_
  refine T.thenN ?_
  refine T.seq ?_
  refine T.region ?_
  refine L.assign rfl rfl ?_
  refine L.nil ?_
  refine T.thenN ?_
  refine T.block ?_
  refine T.loop (fun K' D' M' μ => K' = [(1, .int .i64 0), (2, .int .i64 (len : Int)), (3, .int .i64 k), (10, .bool true), (11, .bool true)] ∧ D' = [] ∧ M' = [own 1 3 a len cap ((xs).map e3), Ac] ∧ μ = 0) (.cons (t := 0) rfl <| .cons (t := 4) rfl <| SubK.nil _) (⟨rfl, rfl, rfl, rfl⟩) (.cons (t := 1) rfl <| .cons (t := 2) rfl <| .cons (t := 3) rfl <| .cons (t := 10) rfl <| .cons (t := 11) rfl <| SubK.nil _) qD qS ?_
  rintro K1 D1 M1 m1 ⟨rfl, rfl, rfl, rfl⟩
  refine T.norm3 qA qA qA ?_
  refine T.block ?_
  refine T.seq ?_
  refine T.region ?_
  refine L.move rfl rfl ?_
  refine L.move rfl rfl ?_
  refine L.subN rfl rfl rfl (by omega) ?_
  refine L.assign rfl rfl ?_
  refine L.nil ?_
  refine T.thenN ?_
  refine T.seq ?_
  refine T.seq ?_
  refine T.region ?_
  refine L.move rfl rfl ?_
  refine L.leI rfl rfl rfl ?_
  refine L.nil ?_
  refine T.thenN ?_
  refine T.condT rfl (decide_eq_true (by omega)) ?_
  refine T.seq ?_
  refine T.region ?_
  refine L.move rfl rfl ?_
  refine L.move rfl rfl ?_
  refine L.move rfl rfl ?_
  refine L.move rfl rfl ?_
  refine L.call rfl (evs.cons rfl <| evs.cons rfl <| evs.cons rfl <| evs.cons rfl <| evs.nil) qD qS (inss_spec hO hc (by omega)) ?_
  rintro _ _ _ ⟨ys, rfl, hp, hs, rfl, rfl⟩
  refine L.norm qA qA ?_
  refine L.nil ?_
  refine T.thenN ?_
  refine T.ret ?_
  refine T.thenR ?_
  refine T.blkR ?_
  refine T.thenR ?_
  refine T.blkR ?_
  exact T.retN (by simp) rfl ⟨ys, rfl, hp, hs, rfl, rfl⟩ qD qF
set_option maxHeartbeats 400000 in
theorem sortf_spec {a : Option Addr} {len cap g : Nat} {caps : List Value} {Ac : Asn} {cf : Int → Int → Int} {xs : List Int} (hO : SWOc cf) (hc : ∀ x y : Int, Spec Tryz.prog g ([.int .i64 x, .int .i64 y] ++ caps) [] [Ac] (fun u D' M' => u = .int .i64 (cf x y) ∧ D' = [] ∧ M' = [Ac])) (hb : len ≤ 12) : Spec Tryz.prog 83 [.slice a len cap, fnV g caps] [] [own 1 3 a len cap ((xs).map e3), Ac] (fun v D' M' => ∃ (ys : List Int), v = .tuple #[] ∧ (ys.Perm xs) ∧ (SortTo cf ys len) ∧ D' = [] ∧ M' = [own 1 3 a len cap ((ys).map e3), Ac]) := by
  refine Spec.intro (n := 14) Tryz.func83 rfl rfl (by decide) (Nat.le_of_ble_eq_true rfl) rfl (fun _ => qA) (fun _ => qA) ?_
  intro σ D M
  refine T.seq ?_
  refine T.region ?_
  refine L.move rfl rfl ?_
  refine L.lenSl rfl Tryz.underlying39 rfl ?_
  refine L.assign rfl rfl ?_
  refine L.nil ?_
  refine T.thenN ?_
  refine T.region ?_
  refine L.move rfl rfl ?_
  refine L.move rfl rfl ?_
  refine L.move rfl rfl ?_
  refine L.convU rfl Tryz.underlying3 Tryz.underlying180 rfl qI ?_
  refine L.call rfl (evs.cons rfl <| evs.nil) qD qS (len_spec (n := len) (by omega)) ?_
  rintro _ _ _ ⟨k, rfl, rfl, rfl⟩
  refine L.norm qA qA ?_
  refine L.move rfl rfl ?_
  refine L.call rfl (evs.cons rfl <| evs.cons rfl <| evs.cons rfl <| evs.cons rfl <| evs.cons rfl <| evs.nil) qD qS (pdqs_spec hO hc hb) ?_
  rintro _ _ _ ⟨ys, rfl, hp, hs, rfl, rfl⟩
  refine L.norm qA qA ?_
  refine L.nil ?_
  exact T.retN (by simp) rfl ⟨ys, rfl, hp, hs, rfl, rfl⟩ qD qF
set_option maxHeartbeats 400000 in
theorem isnan_spec {x : Int}  : Spec Tryz.prog 95 [.int .i64 x] [] [] (fun v D' M' => v = .bool false ∧ D' = [] ∧ M' = []) := by
  refine Spec.intro (n := 6) Tryz.func95 rfl rfl (by decide) (Nat.le_of_ble_eq_true rfl) rfl (fun _ => qA) (fun _ => qA) ?_
  intro σ D M
  refine T.seq ?_
  refine T.region ?_
  refine L.assign rfl rfl ?_
  refine L.nil ?_
  refine T.thenN ?_
  refine T.seq ?_
  refine T.region ?_
  refine L.move rfl rfl ?_
  refine L.move rfl rfl ?_
  refine L.neI rfl rfl rfl ?_
  refine L.assign rfl rfl ?_
  refine L.nil ?_
  refine T.thenN ?_
  refine T.ret ?_
  exact T.ret1 rfl rfl ⟨congrArg Value.bool (by simp), rfl, rfl⟩ qD qF
set_option maxHeartbeats 400000 in
theorem compare_spec {x y : Int}  : Spec Tryz.prog 86 [.int .i64 x, .int .i64 y] [] [] (fun v D' M' => v = .int .i64 (cmpI x y) ∧ D' = [] ∧ M' = []) := by
  refine Spec.intro (n := 20) Tryz.func86 rfl rfl (by decide) (Nat.le_of_ble_eq_true rfl) rfl (fun _ => qA) (fun _ => qA) ?_
  intro σ D M
  refine T.seq ?_
  refine T.region ?_
  refine L.assign rfl rfl ?_
  refine L.nil ?_
  refine T.thenN ?_
  refine T.seq ?_
  refine T.region ?_
  refine L.move rfl rfl ?_
  refine L.callF rfl (evs.cons rfl <| evs.nil) qD qS (isnan_spec ) (by rintro u D1 M1 ⟨rfl, rfl, rfl⟩; exact ⟨rfl, _, qA, qF⟩) ?_
  refine L.assign rfl rfl ?_
  refine L.nil ?_
  refine T.thenN ?_
  refine T.seq ?_
  refine T.region ?_
  refine L.move rfl rfl ?_
  refine L.callF rfl (evs.cons rfl <| evs.nil) qD qS (isnan_spec ) (by rintro u D1 M1 ⟨rfl, rfl, rfl⟩; exact ⟨rfl, _, qA, qF⟩) ?_
  refine L.assign rfl rfl ?_
  refine L.nil ?_
  refine T.thenN ?_
  refine T.seq ?_
  refine T.seq ?_
  refine T.region ?_
  refine L.move rfl rfl ?_
  refine L.nil ?_
  refine T.thenN ?_
  refine T.condF rfl rfl ?_
  refine T.skip ?_
  refine T.thenN ?_
  refine T.seq ?_
  refine T.seq ?_
  refine T.region ?_
  refine L.move rfl rfl ?_
  refine L.nil ?_
  refine T.thenN ?_
  refine T.condF rfl rfl ?_
  refine T.skip ?_
  refine T.thenN ?_
  refine T.seq ?_
  refine T.seq ?_
  refine T.region ?_
  refine L.move rfl rfl ?_
  refine L.move rfl rfl ?_
  refine L.ltI rfl rfl rfl ?_
  refine L.nil ?_
  refine T.thenN ?_
  refine T.cond rfl (fun h16 => ?_) (fun h16 => ?_)
  · try simp only [decide_eq_true_eq, decide_eq_false_iff_not, Bool.not_eq_true', Bool.not_eq_false', Bool.and_eq_true, Bool.or_eq_true] at h16
    refine T.seq ?_
    refine T.region ?_
    refine L.assign rfl rfl ?_
    refine L.nil ?_
    refine T.thenN ?_
    refine T.ret ?_
    refine T.thenR ?_
    exact T.ret1 rfl rfl ⟨by rw [cmpI, if_pos h16], rfl, rfl⟩ qD qF
  · try simp only [decide_eq_true_eq, decide_eq_false_iff_not, Bool.not_eq_true', Bool.not_eq_false', Bool.and_eq_true, Bool.or_eq_true] at h16
    refine T.skip ?_
    refine T.thenN ?_
    refine T.seq ?_
    refine T.seq ?_
    refine T.region ?_
    refine L.move rfl rfl ?_
    refine L.move rfl rfl ?_
    refine L.gtI rfl rfl rfl ?_
    refine L.nil ?_
    refine T.thenN ?_
    refine T.cond rfl (fun h19 => ?_) (fun h19 => ?_)
    · try simp only [decide_eq_true_eq, decide_eq_false_iff_not, Bool.not_eq_true', Bool.not_eq_false', Bool.and_eq_true, Bool.or_eq_true] at h19
      refine T.seq ?_
      refine T.region ?_
      refine L.assign rfl rfl ?_
      refine L.nil ?_
      refine T.thenN ?_
      refine T.ret ?_
      refine T.thenR ?_
      exact T.ret1 rfl rfl ⟨by rw [cmpI, if_neg h16, if_pos h19], rfl, rfl⟩ qD qF
    · try simp only [decide_eq_true_eq, decide_eq_false_iff_not, Bool.not_eq_true', Bool.not_eq_false', Bool.and_eq_true, Bool.or_eq_true] at h19
      refine T.skip ?_
      refine T.thenN ?_
      refine T.seq ?_
      refine T.region ?_
      refine L.assign rfl rfl ?_
      refine L.nil ?_
      refine T.thenN ?_
      refine T.ret ?_
      exact T.ret1 rfl rfl ⟨by rw [cmpI, if_neg h16, if_neg h19], rfl, rfl⟩ qD qF
set_option maxHeartbeats 400000 in
theorem or_spec {a : Option Addr} {len cap : Nat} {xs : List Int} (hb : len ≤ 4611686018427387904) : Spec Tryz.prog 85 [.slice a len cap] [rsl 1 a len cap (xs.map e3)] [] (fun v D' M' => v = .int .i64 (orF xs) ∧ D' = [] ∧ M' = []) := by
  refine Spec.intro (n := 18) Tryz.func85 rfl rfl (by decide) (Nat.le_of_ble_eq_true rfl) rfl (fun _ => qA) (fun _ => qA) ?_
  intro σ D M
  refine T.rslLen2 qM (fun hl hc => ?_)
  rw [List.length_map] at hl
  refine T.seq ?_
  refine T.region ?_
  refine L.assign rfl rfl ?_
  refine L.nil ?_
  refine T.thenN ?_
  refine T.seq ?_
  refine T.region ?_
  refine L.assign rfl rfl ?_
  refine L.nil ?_
  refine T.thenN ?_
  refine T.seq ?_
  refine T.seq ?_
  refine T.region ?_
  refine L.move rfl rfl ?_
  refine L.lenSl rfl Tryz.underlying39 rfl ?_
  refine L.move rfl rfl ?_
  refine L.nil ?_
  refine T.thenN ?_
  refine T.block ?_
  refine T.loop (fun K' D' M' μ => ∃ (k : Nat), (k ≤ len ∧ orF xs = orF (xs.drop k)) ∧ K' = [(8, .int .i64 k)] ∧ D' = [] ∧ M' = [] ∧ μ = len - k) (.cons (t := 3) rfl <| .cons (t := 6) rfl <| .cons (t := 7) rfl <| SubK.nil _) (⟨0, ⟨by omega, by simp⟩, rfl, rfl, rfl, rfl⟩) (.cons (t := 8) rfl <| SubK.nil _) qD qS ?_
  rintro K1 D1 M1 m1 ⟨k, ⟨hk, ho⟩, rfl, rfl, rfl, rfl⟩
  refine T.norm3 qA qA qA ?_
  refine T.seq ?_
  refine T.region ?_
  refine L.ltI rfl rfl rfl ?_
  refine L.nil ?_
  refine T.thenN ?_
  refine T.seq ?_
  refine T.cond rfl (fun h9 => ?_) (fun h9 => ?_)
  · try simp only [decide_eq_true_eq, decide_eq_false_iff_not, Bool.not_eq_true', Bool.not_eq_false', Bool.and_eq_true, Bool.or_eq_true] at h9
    refine T.skip ?_
    refine T.thenN ?_
    refine T.seq ?_
    refine T.block ?_
    refine T.seq ?_
    refine T.region ?_
    have hgd : xs[k]? = some (gd xs k) := gd_get (by omega)
    refine L.idx (i := k) rfl Tryz.underlying39 sz3 rfl rfl qM (by first | rfl | omega | (simp; done)) qG (fun b10 o10 => ?_)
    refine L.load rfl sc3 rfl qC ?_
    refine L.assign rfl rfl ?_
    refine L.nil ?_
    refine T.thenN ?_
    refine T.seq ?_
    refine T.region ?_
    refine L.move rfl rfl ?_
    refine L.move rfl rfl ?_
    refine L.neI rfl rfl rfl ?_
    refine L.nil ?_
    refine T.thenN ?_
    refine T.cond rfl (fun h14 => ?_) (fun h14 => ?_)
    · try simp only [decide_eq_true_eq, decide_eq_false_iff_not, Bool.not_eq_true', Bool.not_eq_false', Bool.and_eq_true, Bool.or_eq_true] at h14
      refine T.seq ?_
      refine T.region ?_
      refine L.move rfl rfl ?_
      refine L.assign rfl rfl ?_
      refine L.nil ?_
      refine T.thenN ?_
      refine T.ret ?_
      refine T.blkR ?_
      refine T.thenR ?_
      refine T.thenR ?_
      refine T.blkR ?_
      refine T.thenR ?_
      exact T.ret1 rfl rfl ⟨by rw [ho, orF_drop (by omega), if_pos h14], rfl, rfl⟩ qD qF
    · try simp only [decide_eq_true_eq, decide_eq_false_iff_not, Bool.not_eq_true', Bool.not_eq_false', Bool.and_eq_true, Bool.or_eq_true] at h14
      refine T.skip ?_
      refine T.blkN ?_
      refine T.thenN ?_
      refine T.region ?_
      refine L.addN rfl rfl rfl (by omega) ?_
      refine L.move rfl rfl ?_
      refine L.nil ?_
      refine T.thenN ?_
      exact T.back ⟨k + 1, ⟨by omega, by rw [ho, orF_drop (by omega), if_neg (by simpa using h14)]⟩, rfl, rfl, rfl, rfl⟩ qI (.cons (t := 8) rfl <| SubK.nil _) (.cons (t := 3) rfl <| .cons (t := 6) rfl <| .cons (t := 7) rfl <| SubK.nil _) qD qD qF
  · try simp only [decide_eq_true_eq, decide_eq_false_iff_not, Bool.not_eq_true', Bool.not_eq_false', Bool.and_eq_true, Bool.or_eq_true] at h9
    refine T.exit ?_
    refine T.thenX ?_
    refine T.thenX ?_
    refine T.blkX ?_
    refine T.thenN ?_
    refine T.seq ?_
    refine T.region ?_
    refine L.move rfl rfl ?_
    refine L.assign rfl rfl ?_
    refine L.nil ?_
    refine T.thenN ?_
    refine T.ret ?_
    exact T.ret1 rfl rfl ⟨by rw [ho, List.drop_of_length_le (by omega)]; rfl, rfl, rfl⟩ qD qF
end Cv
