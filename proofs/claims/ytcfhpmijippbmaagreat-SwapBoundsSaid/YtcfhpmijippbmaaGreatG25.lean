/-
  The walks: functions on slices of orders.
-/
import Derived.Test.YtcfhpmijippbmaaGreatN25
import Derived.Test.YtcfhpmijippbmaaGreatCvLd
import Derived.Lib.Bytealg
import Derived.Test.YtcfhpmijippbmaaGreatProg
import Derived.KernelRfl
set_option linter.unusedVariables false
set_option linter.unusedSimpArgs false
set_option linter.unusedSectionVars false
set_option maxRecDepth 10000
namespace Cv
open Go Go.Proofs
/-! ## deleting from a list of whatever elements -/
section
variable {α : Type} [Inhabited α]
def idxQ (p : α → Bool) (xs : List α) : Int := if xs.any p then (xs.findIdx p : Int) else -1
theorem idxQ_none {p : α → Bool} {xs : List α} (h : ∀ y ∈ xs, p y = false) : idxQ p xs = -1 := by
  unfold idxQ
  rw [if_neg (by simpa using h)]
theorem idxQ_at {p : α → Bool} {xs : List α} {k : Nat} {x : α} (h : ∀ y ∈ xs.take k, p y = false) (hk : xs[k]? = some x) (hp : p x = true) : idxQ p xs = (k : Int) := by
  have hlt : k < xs.length := (List.getElem?_eq_some_iff.1 hk).1
  have hx : xs[k] = x := (List.getElem?_eq_some_iff.1 hk).2
  unfold idxQ
  rw [if_pos (List.any_eq_true.2 ⟨x, List.mem_of_getElem? hk, hp⟩)]
  congr 1
  apply (List.findIdx_eq hlt).2
  refine ⟨by rw [hx]; exact hp, fun j hj => ?_⟩
  exact h _ (by rw [List.mem_take_iff_getElem]; exact ⟨j, by omega, rfl⟩)
theorem idxQ_cases {p : α → Bool} {xs : List α} : (idxQ p xs = -1 ∧ xs.filter (fun x => !p x) = xs) ∨ ∃ k : Nat, idxQ p xs = k ∧ k < xs.length ∧ (xs.take (k + 1)).filter (fun x => !p x) = xs.take k := by
  by_cases h : xs.any p = true
  · right
    have hlt : xs.findIdx p < xs.length := List.findIdx_lt_length_of_exists (by simpa using h)
    refine ⟨xs.findIdx p, by rw [idxQ, if_pos h], hlt, ?_⟩
    rw [List.take_succ_eq_append_getElem hlt, List.filter_append]
    have h1 : p xs[xs.findIdx p] = true := List.findIdx_getElem
    have h2 : (xs.take (xs.findIdx p)).filter (fun x => !p x) = xs.take (xs.findIdx p) := by
      rw [List.filter_eq_self]
      intro a ha
      obtain ⟨j, hj, rfl⟩ := List.mem_take_iff_getElem.1 ha
      have := List.not_of_lt_findIdx (p := p) (xs := xs) (i := j) (by omega)
      simpa using this
    simp [h1, h2]
  · left
    simp only [Bool.not_eq_true, List.any_eq_false] at h
    exact ⟨idxQ_none (by simpa using h), List.filter_eq_self.2 (by simpa using h)⟩
theorem idxQ_m1 {p : α → Bool} {xs : List α} (h : idxQ p xs = -1) : xs.filter (fun x => !p x) = xs := by
  rcases idxQ_cases (p := p) (xs := xs) with h' | ⟨k, hk, _⟩
  · exact h'.2
  · omega
theorem idxQ_k {p : α → Bool} {xs : List α} (h : ¬ idxQ p xs = -1) : ∃ k : Nat, idxQ p xs = k ∧ k < xs.length ∧ (xs.take (k + 1)).filter (fun x => !p x) = xs.take k := by
  rcases idxQ_cases (p := p) (xs := xs) with h' | h'
  · exact absurd h'.1 h
  · exact h'
theorem all_nextG {p : α → Bool} {xs : List α} {k : Nat} (h : ∀ y ∈ xs.take k, p y = false) (hk : k < xs.length) (hp : p (gd xs k) = false) : ∀ y ∈ xs.take (k + 1), p y = false := by
  intro y hy
  rw [List.take_add_one, gd_get hk] at hy
  rcases List.mem_append.1 hy with h1 | h1
  · exact h y h1
  · simp at h1; rw [h1]; exact hp
/-- what DeleteFunc has done: of ys the first i are those of the first j of xs that stay, the rest from j on is as it was -/
def DelG (p : α → Bool) (xs ys : List α) (i j : Nat) : Prop := ys.length = xs.length ∧ i ≤ j ∧ j ≤ xs.length ∧ ys.take i = (xs.take j).filter (fun x => !p x) ∧ ys.drop j = xs.drop j
theorem delg_0 {p : α → Bool} {xs : List α} {k : Nat} (hk : k < xs.length) (h : (xs.take (k + 1)).filter (fun x => !p x) = xs.take k) : DelG p xs xs k (k + 1) := ⟨rfl, by omega, by omega, h.symm, rfl⟩
theorem delg_get {p : α → Bool} {xs ys : List α} {i j : Nat} (h : DelG p xs ys i j) (hj : j < xs.length) : ys[j]? = some (gd xs j) := by
  have := congrArg (fun l : List α => l[0]?) h.2.2.2.2
  simp only [List.getElem?_drop, Nat.add_zero] at this
  rw [this]; exact gd_get hj
theorem delg_no {p : α → Bool} {xs ys : List α} {i j : Nat} (h : DelG p xs ys i j) (hj : j < xs.length) (hp : p (gd xs j) = true) : DelG p xs ys i (j + 1) := by
  obtain ⟨h1, h2, h3, h4, h5⟩ := h
  refine ⟨h1, by omega, by omega, ?_, ?_⟩
  · rw [List.take_add_one, gd_get hj, h4]; simp [hp]
  · rw [← List.drop_drop, ← List.drop_drop, h5]
theorem delg_yes {p : α → Bool} {xs ys : List α} {i j : Nat} (h : DelG p xs ys i j) (hj : j < xs.length) (hp : p (gd xs j) = false) : DelG p xs (ys.set i (gd xs j)) (i + 1) (j + 1) := by
  obtain ⟨h1, h2, h3, h4, h5⟩ := h
  refine ⟨by simpa using h1, by omega, by omega, ?_, ?_⟩
  · rw [List.take_add_one (l := xs), gd_get hj, List.filter_append, ← h4, List.take_set, List.take_succ_eq_append_getElem (by omega)]
    rw [List.set_append_right _ _ (by simp; omega)]
    have : min i ys.length = i := by omega
    simp [hp, this]
  · rw [List.drop_set_of_lt (by omega), ← List.drop_drop, ← List.drop_drop, h5]
theorem delg_end {p : α → Bool} {xs ys : List α} {i : Nat} (h : DelG p xs ys i xs.length) : ys.take i = xs.filter (fun x => !p x) := by
  have := h.2.2.2.1
  rwa [List.take_length] at this
end
/-! ## orders -/
abbrev Wnt := Int × ID32 × Int
abbrev Ord := Wnt × Int × Int × Int
@[reducible] def wC (w : Wnt) : List Value := .int .i64 w.1 :: (w.2.1.1.map Y ++ [.int .i64 w.2.2])
@[reducible] def oC (x : Ord) : List Value := .int .i64 x.1.1 :: (x.1.2.1.1.map Y ++ [.int .i64 x.1.2.2, .int .i64 x.2.1, .int .i64 x.2.2.1, .int .i64 x.2.2.2])
theorem wC_len (w : Wnt) : (wC w).length = 34 := by simp [w.2.1.2]
theorem oC_len (x : Ord) : (oC x).length = 37 := by simp [x.1.2.1.2]
instance : Inhabited ID32 := ⟨⟨List.replicate 32 0, rfl⟩⟩
/-- what is left of a state when one looks for the first -/
def ixS {σ α : Type} (p : α → Bool) (st : σ → α → σ) (s : σ) (xs : List α) : σ := match xs.find? p with | some x => st s x | none => s
theorem find_none {α : Type} {p : α → Bool} : ∀ {xs : List α}, (∀ y ∈ xs, p y = false) → xs.find? p = none
  | [], _ => rfl
  | x :: xs, h => by rw [List.find?_cons_of_neg (by rw [h x (by simp)]; decide)]; exact find_none fun y hy => h y (by simp [hy])
theorem find_atQ {α : Type} {p : α → Bool} {x : α} : ∀ {xs : List α} {k : Nat}, (∀ y ∈ xs.take k, p y = false) → xs[k]? = some x → p x = true → xs.find? p = some x
  | [], k, _, h, _ => by simp at h
  | y :: ys, 0, _, h, hp => by
    simp at h; subst h
    exact List.find?_cons_of_pos hp
  | y :: ys, k + 1, h, hx, hp => by
    rw [List.find?_cons_of_neg (by rw [h y (by simp)]; decide)]
    exact find_atQ (k := k) (fun z hz => h z (by simp [hz])) (by simpa using hx) hp
def delS {σ α : Type} (p : α → Bool) (st : σ → α → σ) (s : σ) (xs : List α) : σ := (xs.filter p).foldl st s
theorem delS_none {σ α : Type} {p : α → Bool} {st : σ → α → σ} {s : σ} {xs : List α} (h : ∀ y ∈ xs, p y = false) : delS p st s xs = s := by
  unfold delS
  rw [List.filter_eq_nil_iff.2 fun y hy => by rw [h y hy]; decide]; rfl
theorem delS_s {σ α : Type} [Inhabited α] {p : α → Bool} {st : σ → α → σ} {s : σ} {xs : List α} {j : Nat} {x : α} (h : xs[j]? = some x) : delS p st s (xs.take (j + 1)) = if p x then st (delS p st s (xs.take j)) x else delS p st s (xs.take j) := by
  unfold delS
  rw [List.take_add_one, h, List.filter_append, List.foldl_append]
  simp only [Option.toList, List.filter_cons, List.filter_nil]
  split <;> rfl
theorem ixS_none {σ α : Type} {p : α → Bool} {st : σ → α → σ} {s : σ} {xs : List α} (h : ∀ y ∈ xs, p y = false) : ixS p st s xs = s := by unfold ixS; rw [find_none h]
theorem ixS_at {σ α : Type} {p : α → Bool} {st : σ → α → σ} {s : σ} {xs : List α} {k : Nat} {x : α} (h : ∀ y ∈ xs.take k, p y = false) (hx : xs[k]? = some x) (hp : p x = true) : ixS p st s xs = st s x := by unfold ixS; rw [find_atQ h hx hp]
/-- behind the first that is found -/
theorem idxQ_step {σ α : Type} [Inhabited α] {p : α → Bool} {st : σ → α → σ} {s : σ} {xs : List α} {k : Nat} (hk : idxQ p xs = k) (hl : k < xs.length) (hf : (xs.take (k + 1)).filter (fun x => !p x) = xs.take k) : ixS p st s xs = delS p st s (xs.take (k + 1)) := by
  have hx : xs[k]? = some (gd xs k) := gd_get hl
  have hall : ∀ y ∈ xs.take k, p y = false := fun y hy => by
    rw [← hf] at hy
    simpa using (List.mem_filter.1 hy).2
  have hpx : p (gd xs k) = true := by
    cases h : p (gd xs k) with
    | true => rfl
    | false =>
      have h2 := congrArg List.length hf
      rw [List.take_add_one, hx, List.filter_append] at h2
      simp [h] at h2
      have h3 : ((xs.take k).filter fun x => !p x) = xs.take k := List.filter_eq_self.2 fun y hy => by rw [hall y hy]; rfl
      rw [h3] at h2
      simp at h2
  rw [ixS_at hall hx hpx, delS_s hx, if_pos hpx, delS_none hall]
theorem idxQ_allF {α : Type} [Inhabited α] {p : α → Bool} {xs : List α} (h : idxQ p xs = -1) : ∀ y ∈ xs, p y = false := by
  intro y hy
  have := idxQ_m1 h
  rw [List.filter_eq_self] at this
  simpa using this y hy
theorem one_ord {l : List Ord} : ∀ u ∈ (l.map oC).flatten, u.oneCell' = true := fun u hu => by
  obtain ⟨r, hr, hu⟩ := List.mem_flatten.1 hu
  obtain ⟨x, _, rfl⟩ := List.mem_map.1 hr
  simp only [oC, List.mem_cons, List.mem_append, List.mem_map, List.not_mem_nil, or_false] at hu
  rcases hu with rfl | ⟨b, _, rfl⟩ | rfl | rfl | rfl | rfl <;> rfl
theorem one_ord2 {l : List Ord} {p q : Nat} : ∀ u ∈ (((l.map oC).drop p).take q).flatten, u.oneCell' = true := fun u hu => by
  obtain ⟨r, hr, hu⟩ := List.mem_flatten.1 hu
  exact one_ord u (List.mem_flatten.2 ⟨r, List.mem_of_mem_drop (List.mem_of_mem_take hr), hu⟩)
theorem del_rowsO {f : Ord → List Value} {xs : List Ord} {i len : Nat} {zs : List (List Value)} (hl : xs.length = len) (hi : i < len) :
    (((xs.map f).take i ++ (xs.map f).drop (i + 1) ++ (xs.map f).drop (len - 1)).take (len - 1) ++ zs).take (len - 1) = (xs.eraseIdx i).map f := by
  have h1 : ((xs.map f).take i ++ (xs.map f).drop (i + 1)).length = len - 1 := by simp; omega
  rw [List.take_append_of_le_length (by rw [List.length_take, List.length_append, h1]; omega), List.take_take, Nat.min_self, List.take_append_of_le_length (by omega), List.take_of_length_le (by omega), List.eraseIdx_eq_take_drop_succ, List.map_append, List.map_take, List.map_drop]
/-! ## letters, wants -/
@[reducible] def letV (kind fr to_ sq : Int) (id : List UInt8) (what : Int) (tx : List UInt8) (pa : Option Addr) (pl pc : Nat) (ha : Option Addr) (hl hc : Nat) : List Value := .int .i64 kind :: .int .i64 fr :: .int .i64 to_ :: .int .i64 sq :: (id.map Y ++ [.int .i64 what, S tx, .slice pa pl pc, .slice ha hl hc])
theorem letV_len {kind fr to_ sq what : Int} {id tx : List UInt8} {pa ha : Option Addr} {pl pc hl hc : Nat} (h : id.length = 32) : (letV kind fr to_ sq id what tx pa pl pc ha hl hc).length = 40 := by simp [h]
def z32 : List UInt8 := List.replicate 32 0
theorem z32_len : z32.length = 32 := rfl
def n20 (n : Int) : Int := (n.tmod 20 + 20).tmod 20
theorem n20_in (n : Int) : 0 ≤ n20 n ∧ n20 n < 20 := by
  unfold n20
  have h0 := Int.tmod_lt_of_pos (-n) (show (0 : Int) < 20 by decide)
  rw [Int.neg_tmod] at h0
  exact ⟨Int.tmod_nonneg _ (by omega), Int.tmod_lt_of_pos _ (by decide)⟩
def chT (m : Int) : List UInt8 := [kb m, 120, kb m]
def chI (m : Int) : ID32 := ⟨oidF 1 (chT m), oidF_len 1 (chT m)⟩
def chW (m : Int) : Wnt := (1, chI m, if m.tmod 5 = 4 then 2 else 3)
theorem tmod20 (a : Int) : -20 < a.tmod 20 ∧ a.tmod 20 < 20 := by
  have h1 := Int.tmod_lt_of_pos a (show (0 : Int) < 20 by decide)
  have := Int.tmod_lt_of_pos (-a) (show (0 : Int) < 20 by decide)
  rw [Int.neg_tmod] at this
  omega
@[reducible] def swC (bb q : Nat) (own : Int) (oa : Option Addr) (on oc lm : Nat) (seq : Int) : List Value := [.pointer (some ⟨bb, 0, none⟩), .pointer (some ⟨q, 0, none⟩), .int .i64 own, .slice oa on oc, .map (some lm), .int .i64 seq]
abbrev ibF (l : List UInt8) (c : UInt8) : Int := Go.Lib.indexByte l c
theorem chI_eq (m : Int) : oidF 1 (chT m) = (chI m).1 := by unfold chI; with_reducible rfl
theorem chW_c (m : Int) : (Value.int .i64 1 :: ((chI m).1.map Y ++ [Value.int .i64 (chW m).2.2])) = wC (chW m) := by unfold chW; with_reducible rfl
theorem ag96 : Ag Tryz.prog 96 37 := fun w => ⟨by kernel_rfl, by kernel_rfl⟩
theorem sz96 : Sz Tryz.prog 96 37 := fun w => by kernel_rfl
theorem zv96 : ∀ w, (zeroValue 96).run Tryz.prog w = .ok (Value.agg #[Value.int .i64 0, Value.int .u8 0, Value.int .u8 0, Value.int .u8 0, Value.int .u8 0, Value.int .u8 0, Value.int .u8 0, Value.int .u8 0, Value.int .u8 0, Value.int .u8 0, Value.int .u8 0, Value.int .u8 0, Value.int .u8 0, Value.int .u8 0, Value.int .u8 0, Value.int .u8 0, Value.int .u8 0, Value.int .u8 0, Value.int .u8 0, Value.int .u8 0, Value.int .u8 0, Value.int .u8 0, Value.int .u8 0, Value.int .u8 0, Value.int .u8 0, Value.int .u8 0, Value.int .u8 0, Value.int .u8 0, Value.int .u8 0, Value.int .u8 0, Value.int .u8 0, Value.int .u8 0, Value.int .u8 0, Value.int .i64 0, Value.int .i64 0, Value.int .i64 0, Value.int .i64 0]) w := fun w => by kernel_rfl
theorem ze96 : Ze Tryz.prog 96 (Value.int .i64 0 :: Value.int .u8 0 :: Value.int .u8 0 :: Value.int .u8 0 :: Value.int .u8 0 :: Value.int .u8 0 :: Value.int .u8 0 :: Value.int .u8 0 :: Value.int .u8 0 :: Value.int .u8 0 :: Value.int .u8 0 :: Value.int .u8 0 :: Value.int .u8 0 :: Value.int .u8 0 :: Value.int .u8 0 :: Value.int .u8 0 :: Value.int .u8 0 :: Value.int .u8 0 :: Value.int .u8 0 :: Value.int .u8 0 :: Value.int .u8 0 :: Value.int .u8 0 :: Value.int .u8 0 :: Value.int .u8 0 :: Value.int .u8 0 :: Value.int .u8 0 :: Value.int .u8 0 :: Value.int .u8 0 :: Value.int .u8 0 :: Value.int .u8 0 :: Value.int .u8 0 :: Value.int .u8 0 :: Value.int .u8 0 :: Value.int .i64 0 :: Value.int .i64 0 :: Value.int .i64 0 :: Value.int .i64 0 :: []) := ⟨_, rfl, zv96⟩
set_option maxHeartbeats 400000 in
theorem idxo_spec {St : Type} {a : Option Addr} {len cap g : Nat} {caps : List Value} {Ac : St → Asn} {p : Ord → Bool} {st : St → Ord → St} {s : St} {xs : List Ord} (hp : ∀ (s : St) (x : Ord), x ∈ xs → Spec Tryz.prog g ([.agg (oC x).toArray] ++ caps) [] [Ac s] (fun u D' M' => u = .bool (p x) ∧ D' = [] ∧ M' = [Ac (if p x then st s x else s)])) (hb : len ≤ 4611686018427387904) : Spec Tryz.prog 60 [.slice a len cap, fnV g caps] [rsl 37 a len cap (xs.map oC)] [Ac s] (fun v D' M' => v = .int .i64 (idxQ p xs) ∧ D' = [] ∧ M' = [Ac (ixS p st s xs)]) := by
  refine Spec.intro (n := 19) Tryz.func60 rfl rfl (by decide) (Nat.le_of_ble_eq_true rfl) rfl (fun _ => qA) (fun _ => qA) ?_
  intro σ D M
  refine T.rslLen2 qM (fun hl hc => ?_)
  rw [List.length_map] at hl
  refine T.seq ?_
  refine T.region ?_
  refine L.assign rfl rfl ?_
  refine L.nil ?_
  refine T.thenN ?_
  refine T.seq ?_
  refine T.seq ?_
  refine T.region ?_
  refine L.move rfl rfl ?_
  refine L.lenSl rfl Tryz.underlying56 rfl ?_
  refine L.move rfl rfl ?_
  refine L.nil ?_
  refine T.thenN ?_
  refine T.block ?_
  refine T.loop (fun K' D' M' μ => ∃ (k : Nat), (k ≤ len ∧ ∀ y ∈ xs.take k, p y = false) ∧ K' = [(8, .int .i64 k)] ∧ D' = [] ∧ M' = [Ac s] ∧ μ = len - k) (.cons (t := 0) rfl <| .cons (t := 1) rfl <| .cons (t := 7) rfl <| SubK.nil _) (⟨0, ⟨by omega, by simp⟩, rfl, rfl, rfl, rfl⟩) (.cons (t := 8) rfl <| SubK.nil _) qD qS ?_
  rintro K1 D1 M1 m1 ⟨k, ⟨hk, hall⟩, rfl, rfl, rfl, rfl⟩
  refine T.norm3 qA qA qA ?_
  refine T.seq ?_
  refine T.region ?_
  refine L.ltI rfl rfl rfl ?_
  refine L.nil ?_
  refine T.thenN ?_
  refine T.seq ?_
  refine T.cond rfl (fun h9 => ?_) (fun h9 => ?_)
  · try simp only [decide_eq_true_eq, decide_eq_false_iff_not, Bool.not_eq_true', Bool.not_eq_false', Bool.and_eq_true, Bool.or_eq_true] at h9
    refine T.skip ?_
    refine T.thenN ?_
    refine T.seq ?_
    refine T.block ?_
    refine T.seq ?_
    refine T.region ?_
    refine L.move rfl rfl ?_
    refine L.assign rfl rfl ?_
    refine L.nil ?_
    refine T.thenN ?_
    refine T.seq ?_
    refine T.region ?_
    refine L.move rfl rfl ?_
    refine L.move rfl rfl ?_
    refine L.move rfl rfl ?_
    have hgd : xs[k]? = some (gd xs k) := gd_get (by omega)
    have hgl := oC_len (gd xs k)
    refine L.idx (i := k) rfl Tryz.underlying56 sz96 rfl rfl qM (by first | rfl | omega | (simp; done)) qG (fun b14 o14 => ?_)
    refine L.loadA rfl ag96 rfl (CellsN.ofD qM (oC_len _)) ?_
    refine L.callV rfl rfl (evs.cons rfl <| evs.nil) qD qS (hp s (gd xs k) (List.mem_of_getElem? hgd)) ?_
    rintro _ _ _ ⟨rfl, rfl, rfl⟩
    refine L.norm qA qA ?_
    refine L.nil ?_
    refine T.thenN ?_
    refine T.cond rfl (fun h16 => ?_) (fun h16 => ?_)
    · try simp only [decide_eq_true_eq, decide_eq_false_iff_not, Bool.not_eq_true', Bool.not_eq_false', Bool.and_eq_true, Bool.or_eq_true] at h16
      refine T.eqv qP (show Ac (if p (gd xs k) then st s (gd xs k) else s) = Ac (ixS p st s xs) from by rw [ixS_at hall hgd h16, h16]; rfl) ?_
      refine T.seq ?_
      refine T.region ?_
      refine L.move rfl rfl ?_
      refine L.assign rfl rfl ?_
      refine L.nil ?_
      refine T.thenN ?_
      refine T.ret ?_
      refine T.blkR ?_
      refine T.thenR ?_
      refine T.thenR ?_
      refine T.blkR ?_
      refine T.thenR ?_
      exact T.ret1 rfl rfl ⟨by rw [idxQ_at hall hgd h16], rfl, rfl⟩ qD qF
    · try simp only [decide_eq_true_eq, decide_eq_false_iff_not, Bool.not_eq_true', Bool.not_eq_false', Bool.and_eq_true, Bool.or_eq_true] at h16
      refine T.skip ?_
      refine T.blkN ?_
      refine T.thenN ?_
      refine T.region ?_
      refine L.addN rfl rfl rfl (by omega) ?_
      refine L.move rfl rfl ?_
      refine L.nil ?_
      refine T.thenN ?_
      refine T.eqv qP (show Ac (if p (gd xs k) then st s (gd xs k) else s) = Ac s from by rw [h16]; rfl) ?_
      exact T.back ⟨k + 1, ⟨by omega, all_nextG hall (by omega) h16⟩, rfl, rfl, rfl, rfl⟩ qI (.cons (t := 8) rfl <| SubK.nil _) (.cons (t := 0) rfl <| .cons (t := 1) rfl <| .cons (t := 7) rfl <| SubK.nil _) qD qD qF
  · try simp only [decide_eq_true_eq, decide_eq_false_iff_not, Bool.not_eq_true', Bool.not_eq_false', Bool.and_eq_true, Bool.or_eq_true] at h9
    obtain rfl : k = len := by omega
    have hall2 : ∀ y ∈ xs, p y = false := fun y hy => hall y (by rw [List.take_of_length_le (by omega)]; exact hy)
    refine T.exit ?_
    refine T.thenX ?_
    refine T.thenX ?_
    refine T.blkX ?_
    refine T.thenN ?_
    refine T.seq ?_
    refine T.region ?_
    refine L.assign rfl rfl ?_
    refine L.nil ?_
    refine T.thenN ?_
    refine T.ret ?_
    refine T.eqv qP (show Ac s = Ac (ixS p st s xs) from by rw [ixS_none hall2]) ?_
    exact T.ret1 rfl rfl ⟨by rw [idxQ_none hall2], rfl, rfl⟩ qD qF
set_option maxHeartbeats 400000 in
theorem cono_spec {St : Type} {a : Option Addr} {len cap g : Nat} {caps : List Value} {Ac : St → Asn} {p : Ord → Bool} {st : St → Ord → St} {s : St} {xs : List Ord} (hp : ∀ (s : St) (x : Ord), x ∈ xs → Spec Tryz.prog g ([.agg (oC x).toArray] ++ caps) [] [Ac s] (fun u D' M' => u = .bool (p x) ∧ D' = [] ∧ M' = [Ac (if p x then st s x else s)])) (hb : len ≤ 4611686018427387904) : Spec Tryz.prog 35 [.slice a len cap, fnV g caps] [rsl 37 a len cap (xs.map oC)] [Ac s] (fun v D' M' => v = .bool (decide (0 ≤ idxQ p xs)) ∧ D' = [] ∧ M' = [Ac (ixS p st s xs)]) := by
  refine Spec.intro (n := 9) Tryz.func35 rfl rfl (by decide) (Nat.le_of_ble_eq_true rfl) rfl (fun _ => qA) (fun _ => qA) ?_
  intro σ D M
  refine T.seq ?_
  refine T.region ?_
  refine L.assign rfl rfl ?_
  refine L.nil ?_
  refine T.thenN ?_
  refine T.seq ?_
  refine T.region ?_
  refine L.move rfl rfl ?_
  refine L.move rfl rfl ?_
  refine L.call rfl (evs.cons rfl <| evs.cons rfl <| evs.nil) qD qS (idxo_spec hp hb) ?_
  rintro _ _ _ ⟨rfl, rfl, rfl⟩
  refine L.norm qA qA ?_
  refine L.geI rfl rfl rfl ?_
  refine L.assign rfl rfl ?_
  refine L.nil ?_
  refine T.thenN ?_
  refine T.ret ?_
  exact T.ret1 rfl rfl ⟨rfl, rfl, rfl⟩ qD qF
set_option maxHeartbeats 400000 in
theorem delo_spec {St : Type} {a : Option Addr} {len cap g : Nat} {caps : List Value} {Ac : St → Asn} {p : Ord → Bool} {st : St → Ord → St} {s : St} {xs : List Ord} (hp : ∀ (s : St) (x : Ord), x ∈ xs → Spec Tryz.prog g ([.agg (oC x).toArray] ++ caps) [] [Ac s] (fun u D' M' => u = .bool (p x) ∧ D' = [] ∧ M' = [Ac (if p x then st s x else s)])) (hb : len ≤ 4611686018427387904) : Spec Tryz.prog 54 [.slice a len cap, fnV g caps] [] [own 37 96 a len cap ((xs).map oC), Ac s] (fun v D' M' => ∃ (a' : Option Addr) (len' cap' : Nat), v = .slice a' len' cap' ∧ ((xs.filter (fun x => !p x)).length = len') ∧ D' = [] ∧ M' = [own 37 96 a' len' cap' ((xs.filter (fun x => !p x)).map oC), Ac (delS p st s xs)]) := by
  refine Spec.intro (n := 42) Tryz.func54 rfl rfl (by decide) (Nat.le_of_ble_eq_true rfl) rfl (fun _ => qA) (fun _ => qA) ?_
  intro σ D M
  refine T.ownLen qM (fun hl hc => ?_)
  rw [List.length_map] at hl
  refine T.seq ?_
  refine T.region ?_
  refine L.assign rfl rfl ?_
  refine L.nil ?_
  refine T.thenN ?_
  refine T.seq ?_
  refine T.region ?_
  refine L.move rfl rfl ?_
  refine L.move rfl rfl ?_
  refine L.callB1 (A := own 37 96 a len cap ((xs).map oC)) rfl (evs.cons rfl <| evs.cons rfl <| evs.nil) qS qP (fun z H => rsl_of_own H) (idxo_spec hp hb) ?_
  rintro _ _ _ ⟨rfl, rfl, rfl⟩
  refine L.norm AppL.nil qA ?_
  refine L.assign rfl rfl ?_
  refine L.nil ?_
  refine T.thenN ?_
  refine T.seq ?_
  refine T.seq ?_
  refine T.region ?_
  refine L.move rfl rfl ?_
  refine L.eqI rfl rfl rfl ?_
  refine L.nil ?_
  refine T.thenN ?_
  refine T.cond rfl (fun h12 => ?_) (fun h12 => ?_)
  · try simp only [decide_eq_true_eq, decide_eq_false_iff_not, Bool.not_eq_true', Bool.not_eq_false', Bool.and_eq_true, Bool.or_eq_true] at h12
    have hf := idxQ_m1 h12
    refine T.ownEq a ((xs.filter (fun x => !p x)).map oC) qP (by rw [hf]) ?_
    refine T.eqv qP (show Ac (ixS p st s xs) = Ac (delS p st s xs) from by rw [ixS_none (idxQ_allF h12), delS_none (idxQ_allF h12)]) ?_
    refine T.seq ?_
    refine T.region ?_
    refine L.move rfl rfl ?_
    refine L.assign rfl rfl ?_
    refine L.nil ?_
    refine T.thenN ?_
    refine T.ret ?_
    refine T.thenR ?_
    exact T.ret1 rfl rfl ⟨_, _, _, rfl, by rw [hf]; exact hl, rfl, rfl⟩ qD qF
  · try simp only [decide_eq_true_eq, decide_eq_false_iff_not, Bool.not_eq_true', Bool.not_eq_false', Bool.and_eq_true, Bool.or_eq_true] at h12
    obtain ⟨k, hk, hkl, hkf⟩ := idxQ_k h12
    refine T.eqv qP (show Ac (ixS p st s xs) = Ac (delS p st s (xs.take (k + 1))) from by rw [idxQ_step hk hkl hkf]) ?_
    rw [hk]
    refine T.ownNe qM (by omega) (fun b o ha => ?_)
    subst ha
    refine T.skip ?_
    refine T.thenN ?_
    refine T.seq ?_
    refine T.seq ?_
    refine T.region ?_
    refine L.move rfl rfl ?_
    refine L.addN rfl rfl rfl (by omega) ?_
    refine L.assign rfl rfl ?_
    refine L.nil ?_
    refine T.thenN ?_
    refine T.block ?_
    refine T.loop (fun K' D' M' μ => ∃ (i j : Nat) (ys : List Ord), (DelG p xs ys i j) ∧ K' = [(5, .int .i64 i), (6, .int .i64 j)] ∧ D' = [] ∧ M' = [own 37 96 (some ⟨b, o, none⟩) len cap ((ys).map oC), Ac (delS p st s (xs.take j))] ∧ μ = xs.length - j) (.cons (t := 0) rfl <| .cons (t := 1) rfl <| SubK.nil _) (⟨k, k + 1, xs, delg_0 hkl hkf, rfl, rfl, rfl, rfl⟩) (.cons (t := 5) rfl <| .cons (t := 6) rfl <| SubK.nil _) qD qS ?_
    rintro K1 D1 M1 m1 ⟨i, j, ys, hI, rfl, rfl, rfl, rfl⟩
    refine T.norm3 qA qA qA ?_
    have hI1 := hI.1
    have hI2 := hI.2.1
    have hI3 := hI.2.2.1
    refine T.seq ?_
    refine T.seq ?_
    refine T.region ?_
    refine L.move rfl rfl ?_
    refine L.move rfl rfl ?_
    refine L.lenSl rfl Tryz.underlying56 rfl ?_
    refine L.ltI rfl rfl rfl ?_
    refine L.nil ?_
    refine T.thenN ?_
    refine T.cond rfl (fun h19 => ?_) (fun h19 => ?_)
    · try simp only [decide_eq_true_eq, decide_eq_false_iff_not, Bool.not_eq_true', Bool.not_eq_false', Bool.and_eq_true, Bool.or_eq_true] at h19
      refine T.skip ?_
      refine T.thenN ?_
      refine T.seq ?_
      refine T.block ?_
      refine T.seq ?_
      refine T.region ?_
      refine L.move rfl rfl ?_
      refine L.move rfl rfl ?_
      have hgd : ys[j]? = some (gd xs j) := delg_get hI (by omega)
      have hgx : xs[j]? = some (gd xs j) := gd_get (by omega)
      have hgl := oC_len (gd xs j)
      refine L.idxG (i := j) rfl Tryz.underlying56 sz96 rfl rfl (by first | rfl | omega | (simp; done)) qI ?_
      refine L.loadA rfl ag96 rfl (CellsN.ofOwn qM (map_get hgd) (oC_len _)) ?_
      refine L.alloc rfl ze96 (fun b7 => ?_)
      refine L.storeA ag96 rfl rfl qL qO qU qW ?_
      refine L.nil ?_
      refine T.thenN ?_
      refine T.seq ?_
      refine T.region ?_
      refine L.move rfl rfl ?_
      refine L.loadA rfl ag96 rfl qN ?_
      refine L.callV rfl rfl (evs.cons rfl <| evs.nil) qD qS (hp (delS p st s (xs.take j)) (gd xs j) (List.mem_of_getElem? hgx)) ?_
      rintro _ _ _ ⟨rfl, rfl, rfl⟩
      refine L.norm qA qA ?_
      refine L.notB rfl rfl ?_
      refine L.nil ?_
      refine T.thenN ?_
      refine T.cond rfl (fun h29 => ?_) (fun h29 => ?_)
      · try simp only [decide_eq_true_eq, decide_eq_false_iff_not, Bool.not_eq_true', Bool.not_eq_false', Bool.and_eq_true, Bool.or_eq_true] at h29
        have hpv : p (gd xs j) = false := by simpa using h29
        refine T.seq ?_
        refine T.region ?_
        refine L.move rfl rfl ?_
        refine L.move rfl rfl ?_
        refine L.loadA rfl ag96 rfl qN ?_
        refine L.idxG (i := i) rfl Tryz.underlying56 sz96 rfl rfl (by first | rfl | omega | (simp; done)) qI ?_
        refine L.storeOA (i) ag96 rfl (by first | rfl | omega | (simp; done)) rfl qL qO qP qI ?_
        refine L.nil ?_
        refine T.thenN ?_
        refine T.region ?_
        refine L.move rfl rfl ?_
        refine L.addN rfl rfl rfl (by omega) ?_
        refine L.assign rfl rfl ?_
        refine L.nil ?_
        refine T.blkN ?_
        refine T.thenN ?_
        refine T.region ?_
        refine L.move rfl rfl ?_
        refine L.addN rfl rfl rfl (by omega) ?_
        refine L.assign rfl rfl ?_
        refine L.nil ?_
        refine T.thenN ?_
        refine T.ownEq _ ((ys.set i (gd xs j)).map oC) qP (by rw [List.map_set]) ?_
        refine T.eqv qP (show Ac (if p (gd xs j) then st (delS p st s (xs.take j)) (gd xs j) else delS p st s (xs.take j)) = Ac (delS p st s (xs.take (j + 1))) from by rw [delS_s hgx]) ?_
        exact T.back ⟨i + 1, j + 1, _, delg_yes hI (by omega) hpv, rfl, rfl, rfl, rfl⟩ qI (.cons (t := 5) rfl <| .cons (t := 6) rfl <| SubK.nil _) (.cons (t := 0) rfl <| .cons (t := 1) rfl <| SubK.nil _) qD qD qF
      · try simp only [decide_eq_true_eq, decide_eq_false_iff_not, Bool.not_eq_true', Bool.not_eq_false', Bool.and_eq_true, Bool.or_eq_true] at h29
        have hpv : p (gd xs j) = true := by simpa using h29
        refine T.skip ?_
        refine T.blkN ?_
        refine T.thenN ?_
        refine T.region ?_
        refine L.move rfl rfl ?_
        refine L.addN rfl rfl rfl (by omega) ?_
        refine L.assign rfl rfl ?_
        refine L.nil ?_
        refine T.thenN ?_
        refine T.eqv qP (show Ac (if p (gd xs j) then st (delS p st s (xs.take j)) (gd xs j) else delS p st s (xs.take j)) = Ac (delS p st s (xs.take (j + 1))) from by rw [delS_s hgx]) ?_
        exact T.back ⟨i, j + 1, _, delg_no hI (by omega) hpv, rfl, rfl, rfl, rfl⟩ qI (.cons (t := 5) rfl <| .cons (t := 6) rfl <| SubK.nil _) (.cons (t := 0) rfl <| .cons (t := 1) rfl <| SubK.nil _) qD qD qF
    · try simp only [decide_eq_true_eq, decide_eq_false_iff_not, Bool.not_eq_true', Bool.not_eq_false', Bool.and_eq_true, Bool.or_eq_true] at h19
      obtain hje : j = xs.length := by omega
      subst hje
      have hfe := delg_end hI
      rw [List.take_length]
      refine T.exit ?_
      refine T.thenX ?_
      refine T.thenX ?_
      refine T.blkX ?_
      refine T.thenN ?_
      refine T.seq ?_
      refine T.region ?_
      refine L.move rfl rfl ?_
      refine L.move rfl rfl ?_
      refine L.sliceSl rfl Tryz.underlying56 sz96 rfl (Bd.at (x := i) rfl (by first | rfl | omega | (simp; done))) Bd.no qI qI ?_
      refine L.clearO (i := i) (sz := 37) Tryz.underlying56 zv96 rfl rfl qO rfl qP qI qI ?_
      refine L.nil ?_
      refine T.thenN ?_
      refine T.seq ?_
      refine T.region ?_
      refine L.move rfl rfl ?_
      refine L.move rfl rfl ?_
      refine L.sliceTo rfl Tryz.underlying56 sz96 rfl (Bd.at (x := i) rfl (by first | rfl | omega | (simp; done))) qI ?_
      refine L.assign rfl rfl ?_
      refine L.nil ?_
      refine T.ownTo (h := i) qP (by omega) ?_
      refine T.ownEq _ ((xs.filter (fun x => !p x)).map oC) qP (by rw [take_tail (by simp; omega), ← List.map_take, hfe]) ?_
      refine T.thenN ?_
      refine T.ret ?_
      exact T.ret1 rfl rfl ⟨_, _, _, rfl, by rw [← hfe, List.length_take]; omega, rfl, rfl⟩ qD qF
end Cv
