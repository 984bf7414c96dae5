/-
  The walks: owned trees.
-/
import Derived.Test.YtdajpfbgikgkeaaM05
import Derived.Test.YtdajpfbgikgkeaaN05
import Derived.Test.YtdajpfbgikgkeaaProg
import Derived.KernelRfl
set_option linter.unusedVariables false
set_option linter.unusedSimpArgs false
set_option linter.unusedSectionVars false
set_option maxRecDepth 10000
namespace Cv
open Go Go.Proofs
/-! ## owned trees -/
mutual
def otr (e : Nat) : Tr → List Value → Asn
  | .mk n k t ks, row => fun h => ∃ p : Option Addr × Nat × List (List Value), row = eRow (.mk n k t ks) p.1 ks.length p.2.1 ∧ Holds [own 4 e p.1 ks.length p.2.1 p.2.2, okid e ks p.2.2] h
def okid (e : Nat) : List Tr → List (List Value) → Asn
  | [], rows => fun _ => rows = []
  | y :: ys, rows => fun h => ∃ p : List Value × List (List Value), rows = p.1 :: p.2 ∧ Holds [otr e y p.1, okid e ys p.2] h
end
theorem otr_eq {e : Nat} {x : Tr} {row : List Value} {h : Hp} : otr e x row h ↔ ∃ p : Option Addr × Nat × List (List Value), row = eRow x p.1 x.ks.length p.2.1 ∧ Holds [own 4 e p.1 x.ks.length p.2.1 p.2.2, okid e x.ks p.2.2] h := by cases x; rw [otr]; exact Iff.rfl
theorem okid_nil {e : Nat} {rows : List (List Value)} {h : Hp} : okid e [] rows h ↔ rows = [] := by rw [okid]
theorem okid_cons {e : Nat} {y : Tr} {ys : List Tr} {rows : List (List Value)} {h : Hp} : okid e (y :: ys) rows h ↔ ∃ p : List Value × List (List Value), rows = p.1 :: p.2 ∧ Holds [otr e y p.1, okid e ys p.2] h := by rw [okid]
theorem okid_len {e : Nat} : ∀ {ks : List Tr} {rows : List (List Value)} {h : Hp}, okid e ks rows h → rows.length = ks.length
  | [], rows, h, H => by rw [okid_nil.1 H]; rfl
  | y :: ys, rows, h, H => by
    obtain ⟨p, rfl, _, h2, _, _, _, _, k1, _, _, _, _, H2, _⟩ := okid_cons.1 H
    simp [okid_len H2]
theorem okid_snoc {e : Nat} {y : Tr} {r : List Value} : ∀ {ks : List Tr} {rows : List (List Value)} {h : Hp}, Holds [okid e ks rows, otr e y r] h → okid e (ks ++ [y]) (rows ++ [r]) h
  | [], rows, h, H => by
    obtain ⟨h1, h2, l1, l2, d, H1, H2⟩ := H
    rw [okid_nil] at H1
    subst H1
    refine okid_cons.2 ⟨(r, []), rfl, ?_⟩
    obtain ⟨k1, k2, m1, m2, d', H3, H4⟩ := H2.mono l2
    exact ⟨k1, k2, m1, m2, d', H3, fun _ => none, fun _ => none, (fun _ _ e => by cases e), (fun _ _ e => by cases e), (fun _ => .inl rfl), okid_nil.2 rfl, trivial⟩
  | z :: zs, rows, h, H => by
    have ih : ∀ {rs : List (List Value)} {h : Hp}, Holds [okid e zs rs, otr e y r] h → okid e (zs ++ [y]) (rs ++ [r]) h := fun H => okid_snoc H
    obtain ⟨h1, h2, l1, l2, d, H1, H2⟩ := H
    obtain ⟨p, rfl, H3⟩ := okid_cons.1 H1
    refine okid_cons.2 ⟨(p.1, p.2 ++ [r]), rfl, ?_⟩
    have H4 : Holds ([otr e z p.1, okid e zs p.2] ++ [otr e y r]) h := Holds.append.2 ⟨h1, h2, l1, l2, d, H3, H2⟩
    exact (Ent.cons _ (Ent.trans (Ent.fold (L := [okid e zs p.2, otr e y r]) (M := [])) (Ent.imp fun k K => ih K))) h H4
theorem okid_rt_of {e : Nat} : ∀ {ks : List Tr}, (∀ y ∈ ks, ∀ row h, otr e y row h → RT h y row) → ∀ {rows : List (List Value)} {h : Hp}, okid e ks rows h → ∀ (i : Nat) (y : Tr) (r : List Value), ks[i]? = some y → rows[i]? = some r → RT h y r
  | [], _, rows, h, H => fun i y r h1 => by simp at h1
  | z :: zs, ih, rows, h, H => fun i y r q1 q2 => by
    obtain ⟨p, rfl, h1, h2, l1, l2, d, H1, k1, k2, m1, m2, d', H2, _⟩ := okid_cons.1 H
    cases i with
    | zero =>
      simp only [List.getElem?_cons_zero, Option.some.injEq] at q1 q2
      subst q1; subst q2
      exact (ih _ (by simp) _ _ H1).mono l1
    | succ i =>
      simp only [List.getElem?_cons_succ] at q1 q2
      exact (okid_rt_of (fun w hw => ih w (by simp [hw])) H2 i y r q1 q2).mono (m1.trans l2)
theorem otr_rt {e : Nat} (x : Tr) : ∀ row h, otr e x row h → RT h x row := by
  refine Tr.ind (p := fun x => ∀ row h, otr e x row h → RT h x row) (fun x ih row h H => ?_) x
  obtain ⟨⟨a, cap, rows⟩, rfl, h1, h2, l1, l2, d, H1, k1, k2, m1, m2, d', H2, _⟩ := otr_eq.1 H
  refine .mk (rsl_mono (rsl_of_own H1) l1) (okid_len H2) (fun i y r q1 q2 => ?_)
  exact (okid_rt_of ih H2 i y r q1 q2).mono (m1.trans l2)
section
variable {σ : World} {n : Nat} {G : Act → World → Prop} {K : Env} {D M N : List Asn}
theorem T.otrOpen {e : Nat} {x : Tr} {a : Option Addr} {len cap : Nat} (hM : Pull (otr e x (eRow x a len cap)) M N) (next : ∀ rows, x.ks.length = len → rows.length = len → T σ n G K D (own 4 e a len cap rows :: okid e x.ks rows :: N)) : T σ n G K D M := fun ac w s t => by
  have t1 : Sat σ D ((fun k => ∃ rows : List (List Value), (x.ks.length = len ∧ rows.length = len) ∧ Holds [own 4 e a len cap rows, okid e x.ks rows] k) :: N) w := (t.ent hM).ent (Ent.imp fun k H => by
    obtain ⟨⟨a', cap', rows⟩, hr, H1⟩ := otr_eq.1 H
    simp only [List.cons.injEq, Value.slice.injEq, and_true, true_and] at hr
    obtain ⟨rfl, rfl, rfl⟩ := hr
    refine ⟨rows, ⟨rfl, ?_⟩, H1⟩
    obtain ⟨_, h2, _, _, _, _, k1, _, _, _, _, H2, _⟩ := H1
    exact okid_len H2)
  obtain ⟨rows, t2⟩ := t1.ex
  obtain ⟨q1, q2⟩ := t2.pure (fun k h => h.1)
  have t3 : Sat σ D (all [own 4 e a len cap rows, okid e x.ks rows] :: N) w := t2.ent (Ent.imp fun k h => h.2)
  exact next rows q1 q2 ac w s (t3.ent Ent.unfold)
theorem T.okidOpen {e i : Nat} {y : Tr} {ks : List Tr} {rows : List (List Value)} (hy : ks[i]? = some y) (hM : Pull (okid e (ks.drop i) rows) M N) (next : ∀ a len cap rs, rows = eRow y a len cap :: rs → T σ n G K D (otr e y (eRow y a len cap) :: okid e (ks.drop (i + 1)) rs :: N)) : T σ n G K D M := fun ac w s t => by
  have hi := (List.getElem?_eq_some_iff.1 hy).1
  have ed : ks.drop i = y :: ks.drop (i + 1) := by rw [List.drop_eq_getElem_cons hi]; congr 1; exact (List.getElem?_eq_some_iff.1 hy).2
  have t1 : Sat σ D ((fun k => ∃ p : Option Addr × Nat × Nat × List (List Value), rows = eRow y p.1 p.2.1 p.2.2.1 :: p.2.2.2 ∧ Holds [otr e y (eRow y p.1 p.2.1 p.2.2.1), okid e (ks.drop (i + 1)) p.2.2.2] k) :: N) w := (t.ent hM).ent (Ent.imp fun k H => by
    rw [ed] at H
    obtain ⟨⟨r, rs⟩, rfl, H1⟩ := okid_cons.1 H
    have H2 := H1
    obtain ⟨h1, _, _, _, _, H3, _⟩ := H2
    obtain ⟨⟨a', cap', _⟩, rfl, _⟩ := otr_eq.1 H3
    exact ⟨(a', y.ks.length, cap', rs), rfl, H1⟩)
  obtain ⟨⟨a, len, cap, rs⟩, t2⟩ := t1.ex
  have q1 := t2.pure (fun k h => h.1)
  have t3 : Sat σ D (all [otr e y (eRow y a len cap), okid e (ks.drop (i + 1)) rs] :: N) w := t2.ent (Ent.imp fun k h => h.2)
  exact next a len cap rs q1 ac w s (t3.ent Ent.unfold)
theorem T.otrMk {e : Nat} {x : Tr} {ks : List Tr} {a : Option Addr} {len cap : Nat} {rows : List (List Value)} (hk : x.ks = ks) (hl : ks.length = len) (hM : Sel [own 4 e a len cap rows, okid e ks rows] M N) (next : T σ n G K D (otr e x (eRow x a len cap) :: N)) : T σ n G K D M := fun ac w s t => by
  subst hk; subst hl
  exact next ac w s ((t.ent (hM.trans Ent.fold)).ent (Ent.imp fun k H => otr_eq.2 ⟨(a, cap, rows), rfl, H⟩))
theorem T.okidSnoc {e : Nat} {y : Tr} {ks : List Tr} {r : List Value} {rows : List (List Value)} (hM : Sel [okid e ks rows, otr e y r] M N) (next : T σ n G K D (okid e (ks ++ [y]) (rows ++ [r]) :: N)) : T σ n G K D M := fun ac w s t =>
  next ac w s ((t.ent (hM.trans Ent.fold)).ent (Ent.imp fun k H => okid_snoc H))
theorem T.okid0 {e : Nat} (next : T σ n G K D (okid e [] [] :: M)) : T σ n G K D M := T.drop (show Ent M (okid e [] [] :: M) from fun h H => ⟨fun _ => none, h, (fun _ _ e => by cases e), Hp.le.refl _, (fun _ => .inl rfl), okid_nil.2 rfl, H⟩) next
end
/-- a contract over what is read, over what is owned -/
theorem Spec.lend {P : Program} {f : FuncId} {args : List Value} {D0 : List Asn} {φ A : Asn} {v : Value} (hi : ∀ z, A z → φ z) (hS : Spec P f args (φ :: D0) [] (fun u D' M' => u = v ∧ D' = [] ∧ M' = [])) : Spec P f args D0 [A] (fun u D' M' => u = v ∧ D' = [] ∧ M' = [A]) where
  fn := hS.fn
  run σ D M w h := by
    obtain ⟨X, Z, h1, h2⟩ := Sat.lend (D := D0 ++ D) (D0 := φ :: D0) (M0 := []) (B := [A]) (F := M) h (fun ψ hψ => by
      cases hψ with
      | head => exact .inr ⟨A, .head _, hi⟩
      | tail _ h' => exact .inl (List.mem_append_left _ h'))
    refine (hS.run σ _ M w h1).mono ?_
    rintro e w' ⟨u, D', M', rfl, ⟨rfl, rfl, rfl⟩, hs⟩
    exact ⟨_, [], [A], rfl, ⟨rfl, rfl, rfl⟩, (h2 [] [] w' hs).facts (fun ψ hψ => List.mem_append_right _ hψ)⟩
/-! ## trees made right -/
theorem countL_perm {xs ys : List Tr} (h : xs.Perm ys) : countL xs = countL ys := by
  induction h with
  | nil => rfl
  | cons x _ ih => simp only [countL, ih]
  | swap x y l => simp only [countL]; omega
  | trans _ _ h1 h2 => exact h1.trans h2
def Sm2 (y : Tr) : Prop := y.n.length ≤ 11 ∧ y.t.length ≤ 300
theorem sm2_all (x : Tr) : TAll Sm2 x → TAll Sm x := Tr.ind (p := fun x => TAll Sm2 x → TAll Sm x) (fun x ih h => .of (fun y hy => ⟨⟨by have := (h.kid hy).1.1; omega, by have := (h.kid hy).1.2; omega⟩, ih y hy (h.kid hy).2⟩)) x
def RGood (x Y : Tr) : Prop := Y.count ≤ x.count ∧ TAll Sm2 Y ∧ Y.t.length ≤ 300
theorem RGood.leaf {x : Tr} {k : Int} {t : List UInt8} (h : t.length ≤ 300) : RGood x (.mk [] k t []) := ⟨by rw [Tr.count_eq, Tr.count_eq x]; simp only [Tr.ks, countL]; omega, tall_leaf, h⟩
/-- how far the entries are made -/
def RI (x : Tr) (i : Nat) (acc : List ET) : Prop := countL (acc.map (·.1)) ≤ countL (x.ks.take i) ∧ ∀ z ∈ acc, Sm2 z.1 ∧ TAll Sm2 z.1
theorem RI.zero (x : Tr) : RI x 0 [] := ⟨by simp [countL], fun z h => by cases h⟩
theorem RI.skip {x y : Tr} {i : Nat} {acc : List ET} (h : RI x i acc) (hy : x.ks[i]? = some y) : RI x (i + 1) acc := ⟨by have := countL_step hy; have := h.1; omega, h.2⟩
theorem RI.snoc {x y : Tr} {i : Nat} {acc : List ET} (h : RI x i acc) (hy : x.ks[i]? = some y) {Y : Tr} (hY : RGood y Y) {m : List UInt8} (hm : m.length ≤ 11) {a : Option Addr} {l c : Nat} : RI x (i + 1) (acc ++ [(Y.named m, a, l, c)]) := by
  refine ⟨?_, fun z hz => ?_⟩
  · have := countL_step hy
    have := h.1
    have := hY.1
    rw [List.map_append, countL_append]
    simp only [List.map_cons, List.map_nil, countL, count_named]
    omega
  · rcases List.mem_append.1 hz with q | q
    · exact h.2 z q
    · simp only [List.mem_singleton] at q
      subst q
      exact ⟨⟨hm, hY.2.2⟩, .of (fun w hw => hY.2.1.kid hw)⟩
theorem RI.of {x : Tr} {i : Nat} {acc ys : List ET} (h : RI x i acc) (hi : x.ks.length ≤ i) (hk : Kp cfN acc ys) : RGood x (ofT ys) := by
  refine ⟨?_, .of (fun w hw => ?_), by simp [ofT, Tr.t]⟩
  · rw [Tr.count_eq, Tr.count_eq x]
    have e : (ofT ys).ks = ys.map (·.1) := rfl
    have := h.1
    rw [e, countL_perm (hk.sm.perm.map _)]
    rw [countL_all hi] at this
    omega
  · obtain ⟨z, hz, rfl⟩ := List.mem_map.1 (show w ∈ ys.map (·.1) from hw)
    exact h.2 z (hk.sm.sub z hz)
def V5 (lm : List (List UInt8 × Int)) (i : Nat) : Prop := ∀ k v, look lm k = some v → 0 ≤ v ∧ v ≤ i
theorem V5.zero : V5 [] 0 := fun k v h => by cases h
theorem V5.get {lm : List (List UInt8 × Int)} {i : Nat} (h : V5 lm i) (k : List UInt8) : 0 ≤ (look lm k).getD 0 ∧ (look lm k).getD 0 ≤ i := by
  cases e : look lm k with
  | none => simp
  | some v => exact h k v e
theorem V5.put {lm : List (List UInt8 × Int)} {i : Nat} (h : V5 lm i) (k : List UInt8) : V5 (put lm k ((look lm k).getD 0 + 1)) (i + 1) := fun k' v hv => by
  rw [look_put] at hv
  split at hv
  · have := h.get k
    cases hv
    omega
  · have := h k' v hv
    omega
theorem T.etsSnoc {σ : World} {n : Nat} {G : Act → World → Prop} {K : Env} {D M : List Asn} {xs : List ET} {Y : Tr} {m : List UInt8} {a : Option Addr} {l c : Nat} (e1 : etsA xs ∈ D) (e2 : rtr (Y.named m) (eRow (Y.named m) a l c) ∈ D) (next : T σ n G K (etsA (xs ++ [(Y.named m, a, l, c)]) :: D) M) : T σ n G K D M :=
  T.facts2 e1 e2 etsA_mono rtr_mono (fun z H1 H2 q hq => by
    rcases List.mem_append.1 hq with q' | q'
    · exact H1 q q'
    · simp only [List.mem_singleton] at q'
      subst q'
      exact H2) next
theorem rows_ets {ks : List Tr} {rows : List (List Value)} (hl : rows.length = ks.length) (h : ∀ (j : Nat) (y : Tr), ks[j]? = some y → ∃ a len cap, rows[j]? = some (eRow y a len cap)) : ∃ xs : List ET, rows = xs.map eT ∧ xs.map (·.1) = ks := by
  induction ks generalizing rows with
  | nil => exact ⟨[], by simpa using hl, rfl⟩
  | cons y ys ih =>
    cases rows with
    | nil => simp at hl
    | cons r rs =>
      obtain ⟨xs, h1, h2⟩ := ih (rows := rs) (by simpa using hl) (fun j z hz => h (j + 1) z (by simpa using hz))
      obtain ⟨a, len, cap, h3⟩ := h 0 y rfl
      simp only [List.getElem?_cons_zero, Option.some.injEq] at h3
      subst h3
      exact ⟨(y, a, len, cap) :: xs, by simp [h1], by simp [h2]⟩
theorem drop_get {α : Type} {l m : List α} {i : Nat} {r : α} (h : l.drop i = m.drop i) (hr : m[i]? = some r) : l[i]? = some r := by
  have e1 : (l.drop i)[0]? = l[i]? := by simp
  have e2 : (m.drop i)[0]? = m[i]? := by simp
  rw [← e1, h, e2, hr]
theorem drop_cons_get {α : Type} {l m : List α} {i : Nat} {r : α} (h : l.drop i = r :: m) : l[i]? = some r ∧ l.drop (i + 1) = m := by
  have e1 : (l.drop i)[0]? = l[i]? := by simp
  refine ⟨by rw [← e1, h]; rfl, ?_⟩
  rw [← List.tail_drop, h]; rfl
theorem set_drop {α : Type} {l : List α} {i : Nat} {r : α} : (l.set i r).drop (i + 1) = l.drop (i + 1) := by
  apply List.ext_getElem?
  intro j
  rw [List.getElem?_drop, List.getElem?_drop, List.getElem?_set_ne (by omega)]
theorem drop_up {α : Type} {l m : List α} {i : Nat} (h : l.drop i = m.drop i) : l.drop (i + 1) = m.drop (i + 1) := by
  rw [← List.tail_drop, h, List.tail_drop]
theorem set_take {α : Type} {l : List α} {i : Nat} {r : α} (hi : i < l.length) : l.take i ++ [r] = (l.set i r).take (i + 1) := by
  rw [List.take_add_one, List.getElem?_set_self hi, List.take_set_of_le (Nat.le_refl _)]; rfl
theorem take_snoc {α : Type} {l : List α} {i : Nat} {y : α} (h : l[i]? = some y) : l.take i ++ [y] = l.take (i + 1) := by
  rw [List.take_add_one, h]; rfl


end Cv
set_option maxRecDepth 10000
namespace Cv
open Go Go.Proofs
/-! ## the item by names -/
@[reducible] def sr (s : List UInt8) : List Value := [S s]
def gsr (_ : List UInt8) : Prop := True
theorem el_str {H : Type} {enc : TypeId × Value → H} {P : Program} {W : World} {base : Nat} {sp : Nat → Bool} {held : Bool} {n : Nat} {t : TypeId} {cs : List Value} {y : DataW H × List MemPlace} (ht : P.underlying t = some .string) (h : DataW.trod enc P W base sp held n t cs = some y) : ∃ z, cs = sr z ∧ gsr z := by
  obtain ⟨s, e1, -, hs⟩ := DataW.trod_string ht h
  exact ⟨s.data.toList, by rw [e1]; simp [S], trivial⟩
def fiT (ks : List Tr) (s : List UInt8) : Option Tr := ks.find? (fun y => decide (y.n = s))
def atT : Tr → List (List UInt8) → Option Tr
  | x, [] => some x
  | x, s :: ss => match fiT x.ks s with | none => none | some y => atT y ss
theorem fiT_at {ks : List Tr} {k : Nat} {y : Tr} {s : List UInt8} (hall : ∀ z ∈ ks.take k, z.n ≠ s) (hy : ks[k]? = some y) (h : y.n = s) : fiT ks s = some y := by
  have hk := (List.getElem?_eq_some_iff.1 hy).1
  have ed : ks.drop k = y :: ks.drop (k + 1) := by rw [List.drop_eq_getElem_cons hk]; congr 1; exact (List.getElem?_eq_some_iff.1 hy).2
  unfold fiT
  rw [← List.take_append_drop k ks, List.find?_append, List.find?_eq_none.2 (fun z hz => by have := hall z hz; simpa using this), ed]
  simp [h]
theorem fiT_none {ks : List Tr} {s : List UInt8} (hall : ∀ z ∈ ks, z.n ≠ s) : fiT ks s = none := List.find?_eq_none.2 (fun z hz => by have := hall z hz; simpa using this)
theorem take_no {ks : List Tr} {k : Nat} {y : Tr} {s : List UInt8} (hall : ∀ z ∈ ks.take k, z.n ≠ s) (hy : ks[k]? = some y) (h : y.n ≠ s) : ∀ z ∈ ks.take (k + 1), z.n ≠ s := fun z hz => by
  rw [← take_snoc hy] at hz
  rcases List.mem_append.1 hz with q | q
  · exact hall z q
  · simp only [List.mem_singleton] at q; subst q; exact h
def AtR (x : Tr) (ss : List (List UInt8)) (z : Tr) (e : Int) : Prop := (atT x ss = some z ∧ e = 0) ∨ (atT x ss = none ∧ e = 7 ∧ z.k = 0)
theorem at_step {z : Tr} {ss : List (List UInt8)} {i : Nat} {s : List UInt8} (hs : ss[i]? = some s) : atT z (ss.drop i) = match fiT z.ks s with | none => none | some y => atT y (ss.drop (i + 1)) := by
  have hi := (List.getElem?_eq_some_iff.1 hs).1
  have ed : ss.drop i = s :: ss.drop (i + 1) := by rw [List.drop_eq_getElem_cons hi]; congr 1; exact (List.getElem?_eq_some_iff.1 hs).2
  rw [ed, atT]
theorem at_some {x z y : Tr} {ss : List (List UInt8)} {i : Nat} {s : List UInt8} (h : atT x ss = atT z (ss.drop i)) (hs : ss[i]? = some s) (hf : fiT z.ks s = some y) : atT x ss = atT y (ss.drop (i + 1)) := by rw [h, at_step hs, hf]
theorem at_none {x z : Tr} {ss : List (List UInt8)} {i : Nat} {s : List UInt8} (h : atT x ss = atT z (ss.drop i)) (hs : ss[i]? = some s) (hf : fiT z.ks s = none) : AtR x ss (.mk [] 0 [] []) 7 := .inr ⟨by rw [h, at_step hs, hf], rfl, rfl⟩
theorem at_end {x z : Tr} {ss : List (List UInt8)} {i : Nat} (h : atT x ss = atT z (ss.drop i)) (hi : ss.length ≤ i) : AtR x ss z 0 := .inl ⟨by rw [h, List.drop_of_length_le hi, atT], rfl⟩
/-! ### in a tree that may be each name is one item's -/
theorem bless_trans {a b c : List UInt8} (h : bless a b = true) (k : bless b c = true) : bless a c = true := bless_iff.2 (cmpB_trans (bless_iff.1 h) (bless_iff.1 k))
theorem bless_ne {a b : List UInt8} (h : bless a b = true) : a ≠ b := fun e => by subst e; have := bless_iff.1 h; rw [cmpB_self] at this; omega
theorem chkL_ord : ∀ (ks : List Tr) (d : Nat) (p : Option (List UInt8)) (n : Nat), (chkL ks d p n).2 = 0 → (∀ y ∈ ks, (chkT y d).2 = 0) ∧ (∀ q, p = some q → ∀ y ∈ ks, bless q y.n = true) ∧ ks.Pairwise (fun a b => bless a.n b.n = true)
  | [], d, p, n, h => ⟨(fun y hy => by cases hy), (fun q _ y hy => by cases hy), List.Pairwise.nil⟩
  | y :: ys, d, p, n, h => by
    rw [chkL] at h
    split at h
    · simp at h
    · rename_i h1
      split at h
      · rename_i h2; exact absurd h h2
      · rename_i h2
        obtain ⟨k1, k2, k3⟩ := chkL_ord ys d (some y.n) _ h
        have hp : ∀ q, p = some q → bless q y.n = true := fun q hq => by
          cases hb : bless q y.n with
          | true => rfl
          | false => exact absurd (.inr ⟨q, hq, hb⟩) h1
        refine ⟨fun z hz => ?_, fun q hq z hz => ?_, List.Pairwise.cons (fun z hz => k2 _ rfl z hz) k3⟩
        · rcases List.mem_cons.1 hz with rfl | hz
          · simpa using h2
          · exact k1 z hz
        · rcases List.mem_cons.1 hz with rfl | hz
          · exact hp q hq
          · exact bless_trans (hp q hq) (k2 _ rfl z hz)
theorem chkT_ord {x : Tr} {d : Nat} (h : (chkT x d).2 = 0) : (∀ y ∈ x.ks, (chkT y (d + 1)).2 = 0) ∧ x.ks.Pairwise (fun a b => bless a.n b.n = true) := by
  rw [chkT_eq] at h
  split at h
  · rename_i h1; exact absurd h h1
  · obtain ⟨k1, _, k3⟩ := chkL_ord _ _ _ _ h
    exact ⟨k1, k3⟩
theorem chkE_T {x : Tr} (h : chkE x = 0) : (chkT x 1).2 = 0 := by
  unfold chkE at h
  split at h
  · simp at h
  · exact h
theorem fiT_own {ks : List Tr} (hp : ks.Pairwise (fun a b => bless a.n b.n = true)) {i : Nat} {y : Tr} (hy : ks[i]? = some y) : fiT ks y.n = some y := by
  have hi := (List.getElem?_eq_some_iff.1 hy).1
  refine fiT_at (k := i) (fun z hz => ?_) hy rfl
  obtain ⟨j, hj, rfl⟩ := List.getElem_of_mem hz
  have hji : j < i := by have := hj; rw [List.length_take] at this; omega
  rw [List.getElem_take]
  have := List.pairwise_iff_getElem.1 hp j i (by omega) hi hji
  rw [← (List.getElem?_eq_some_iff.1 hy).2]
  exact bless_ne this
theorem atT_one {x : Tr} (h : chkE x = 0) {i : Nat} {y : Tr} (hy : x.ks[i]? = some y) : atT x [y.n] = some y := by
  rw [atT, fiT_own (chkT_ord (chkE_T h)).2 hy]
  show atT y [] = some y
  rw [atT]
theorem atT_two {x : Tr} (h : chkE x = 0) {i j : Nat} {y w : Tr} (hy : x.ks[i]? = some y) (hw : y.ks[j]? = some w) : atT x [y.n, w.n] = some w := by
  rw [atT, fiT_own (chkT_ord (chkE_T h)).2 hy]
  show atT y [w.n] = some w
  rw [atT, fiT_own (chkT_ord ((chkT_ord (chkE_T h)).1 y (kid_mem hy))).2 hw]
  show atT w [] = some w
  rw [atT]
theorem AtR.get {x z y : Tr} {ss : List (List UInt8)} {e : Int} (h : AtR x ss z e) (k : atT x ss = some y) : y = z ∧ e = 0 := by
  rcases h with ⟨h1, h2⟩ | ⟨h1, _⟩
  · rw [k] at h1; cases h1; exact ⟨rfl, h2⟩
  · rw [k] at h1; cases h1
theorem at3 {x z : Tr} {ss : List (List UInt8)} {e : Int} (h : AtR x ss z e) : (ss.length = 0 ∧ z = x ∧ e = 0) ∨ (e = 0 ∧ 0 < ss.length) ∨ (e = 7 ∧ 0 < ss.length ∧ z.k = 0) := by
  cases ss with
  | nil =>
    rcases h with ⟨h1, h2⟩ | ⟨h1, h2, h3⟩
    · rw [atT] at h1; cases h1; exact .inl ⟨rfl, rfl, h2⟩
    · rw [atT] at h1; cases h1
  | cons s ss =>
    rcases h with ⟨h1, h2⟩ | ⟨h1, h2, h3⟩
    · exact .inr (.inl ⟨h2, by simp⟩)
    · exact .inr (.inr ⟨h2, by simp, h3⟩)


end Cv
