/-
  My own library for walks, a text of it (CvArr): separation logic over the kit's Calls; no statement of this seat stands here.
-/
import Derived.Test.YtdajpfbgikgkeaaCvApp
import Derived.Laws.CopyRow
import Derived.Laws.StructEq
set_option linter.unusedVariables false
set_option linter.unusedSimpArgs false
set_option linter.unusedSectionVars false
namespace Cv
open Go
/-! ## borrowing for a call -/
theorem Sat.lend {σ w : World} {D D0 M0 B F : List Asn} (h : Sat σ D (M0 ++ (B ++ F)) w) (hD : ∀ φ ∈ D0, φ ∈ D ∨ ∃ A ∈ B, ∀ z, A z → φ z) :
    ∃ X : Hp, ∃ Z : Hp, Sat σ (D0 ++ [fun y => Hp.le X y]) (M0 ++ F) w ∧ ∀ D' M' w', Sat σ (D' ++ [fun y => Hp.le X y]) (M' ++ F) w' → Sat σ D (B ++ (M' ++ F)) w' := by
  obtain ⟨z, k, a, b, c, d, f⟩ := h.heap
  obtain ⟨k1, k2, l1, l2, d1, fM, fr⟩ := Holds.append.1 f
  obtain ⟨k3, k4, l3, l4, d2, fB, fF⟩ := Holds.append.1 fr
  have dz3 : Hp.disj z k3 := c.le (l3.trans l2)
  have d13 : Hp.disj k1 k3 := d1.le l3
  have d14 : Hp.disj k1 k4 := d1.le l4
  refine ⟨Hp.union z k3, z, ⟨h.os, h.tape, h.output, Hp.union z k3, Hp.union k1 k4, Hp.union_le a ((l3.trans l2).trans b), Hp.union_le (l1.trans b) ((l4.trans l2).trans b), ?_, ?_, ?_⟩, ?_⟩
  · refine Hp.disj_union ?_ ?_
    · exact (Hp.disj_union (c.le l1).symm (c.le (l4.trans l2)).symm).symm
    · exact (Hp.disj_union d13 d2.symm).symm
  · intro φ hφ
    rcases List.mem_append.1 hφ with q | q
    · rcases hD φ q with e | ⟨A, hA, i⟩
      · obtain ⟨y, ly, hy⟩ := d φ e
        exact ⟨y, ly.trans (Hp.le_union_left _ _), hy⟩
      · obtain ⟨y, ly, hy⟩ := fB.mem hA
        exact ⟨y, ly.trans (Hp.le_union_right dz3), i _ hy⟩
    · simp at q; subst q
      exact ⟨Hp.union z k3, Hp.le.refl _, Hp.le.refl _⟩
  · exact Holds.append.2 ⟨k1, k4, Hp.le_union_left _ _, Hp.le_union_right d14, d14, fM, fF⟩
  · intro D' M' w' h'
    obtain ⟨z', k', a', b', c', d', f'⟩ := h'.heap
    obtain ⟨y, ly, hy⟩ := d' (fun y => Hp.le (Hp.union z k3) y) (by simp)
    have hX : Hp.le (Hp.union z k3) z' := Hp.le.trans hy ly
    have hz : Hp.le z z' := (Hp.le_union_left _ _).trans hX
    have h3 : Hp.le k3 z' := (Hp.le_union_right dz3).trans hX
    refine ⟨h'.os, h'.tape, h'.output, z, Hp.union k3 k', hz.trans a', Hp.union_le (h3.trans a') b', ?_, d, Holds.append.2 ⟨k3, k', Hp.le_union_left _ _, Hp.le_union_right (c'.le2 h3), c'.le2 h3, fB, f'⟩⟩
    exact (Hp.disj_union dz3.symm (c'.le2 hz).symm).symm

section
variable {P : Program} {σ : World} {n : Nat} {Q : Post} {K : Env} {D M : List Asn} {m : Option (List Asn × List Asn)} {ops : Array Oper} {rest : List Oper} {d : Nat} {ty : TypeId} {pos : String} {aft : Array Edge}
/-- what D0 says follows from D or from what is lent -/
def Lent (D B D0 : List Asn) : Prop := ∀ φ ∈ D0, φ ∈ D ∨ ∃ A ∈ B, ∀ z, A z → φ z
theorem Lent.nil {B : List Asn} : Lent D B [] := fun _ h => by cases h
theorem Lent.fact {B D0 : List Asn} {φ : Asn} (h : φ ∈ D) (k : Lent D B D0) : Lent D B (φ :: D0) := fun ψ hψ => by
  cases hψ with
  | head => exact .inl h
  | tail _ h' => exact k _ h'
theorem Lent.own {B D0 : List Asn} {φ A : Asn} (h : A ∈ B) (i : ∀ z, A z → φ z) (k : Lent D B D0) : Lent D B (φ :: D0) := fun ψ hψ => by
  cases hψ with
  | head => exact .inr ⟨A, h, i⟩
  | tail _ h' => exact k _ h'
/-- a call to which owned assertions B are lent to be read -/
theorem L.callB {f : FuncId} {xs : List Operand} {ats : Array TypeId} {args : List Value} {D0 M0 F N B : List Asn} {R : Value → List Asn → List Asn → Prop} (hd : Nat.blt d n = true) (hx : evs K xs args) (hM : Sel M0 M N) (hB : Sel B N F) (hD : Lent D B D0)
    (hS : Spec P f args D0 M0 R) (next : ∀ v D' M', R v D' M' → TL none P σ n ops Q rest ((d, v) :: K) D (B ++ (M' ++ F))) :
    TL none P σ n ops Q (⟨some d, .call { callee := .value (.func f), args := xs.toArray, argTypes := ats }, ty, pos, aft, none⟩ :: rest) K D M :=
  L.op rfl fun a w s t K' hK' => by
    unfold Oper.wp
    rw [call_run s hx hS]
    obtain ⟨X, Z, h1, h2⟩ := Sat.lend (t.ent (hM.trans (Ent.append (Ent.refl _) hB))) hD
    refine (hS.run σ _ F w h1).mono ?_
    rintro e w' ⟨v, D', M', rfl, hR, hs⟩
    exact hK' _ _ (next v D' M' hR _ _ (s.put v hd) (h2 D' M' w' hs))
theorem L.callBQ {f : FuncId} {xs : List Operand} {ats : Array TypeId} {args : List Value} {D0 M0 F N B : List Asn} {R : Value → List Asn → List Asn → Prop} {v : Value} (hd : Nat.blt d n = true) (hx : evs K xs args) (hM : Sel M0 M N) (hB : Sel B N F) (hD : Lent D B D0)
    (hS : Spec P f args D0 M0 R) (hR : ∀ u D' M', R u D' M' → u = v ∧ Ent (B ++ (M' ++ F)) M) (next : TL m P σ n ops Q rest ((d, v) :: K) D M) :
    TL m P σ n ops Q (⟨some d, .call { callee := .value (.func f), args := xs.toArray, argTypes := ats }, ty, pos, aft, none⟩ :: rest) K D M := by
  cases m with
  | none =>
    refine L.callB hd hx hM hB hD hS fun u D' M' hu => ?_
    obtain ⟨rfl, e⟩ := hR u D' M' hu
    exact T.drop e next
  | some p =>
    refine fun hp a s => ?_
    have hw : Region.wanted ⟨some d, .call { callee := .value (.func f), args := xs.toArray, argTypes := ats }, ty, pos, aft, none⟩ (yielded ops a.tmps) = true := rfl
    unfold wpQuiet
    rw [hw, if_pos rfl]
    refine ⟨v, fun w t => ?_, next hp _ (s.put v hd)⟩
    unfold Oper.quietAt
    rw [call_run s hx hS]
    obtain ⟨X, Z, h1, h2⟩ := Sat.lend ((hp.2.2 w t).ent (hM.trans (Ent.append (Ent.refl _) hB))) hD
    refine ⟨rfl, (hS.run σ _ F w h1).mono ?_⟩
    rintro e w' ⟨u, D', M', rfl, hu, hs⟩
    obtain ⟨rfl, e⟩ := hR u D' M' hu
    obtain ⟨g1, rfl, _⟩ := hp
    exact ⟨rfl, ((h2 D' M' w' hs).ent e).facts g1⟩

/-! ## arrays -/
theorem L.idxA {t e : TypeId} {x y : Operand} {b o len i sz : Nat} {k : IntKind} {iv : Int} (hd : Nat.blt d n = true) (hU : P.underlying t = some (.array len e)) (hz : Sz P e sz) (hx : ev K x = some (.pointer (some ⟨b, o, none⟩))) (hy : ev K y = some (.int k iv))
    (hi : iv = (i : Int)) (hl : i < len) (next : TL m P σ n ops Q rest ((d, .pointer (some ⟨b, o + i * sz, none⟩)) :: K) D M) :
    TL m P σ n ops Q (⟨some d, .indexAddr t x y, ty, pos, aft, none⟩ :: rest) K D M :=
  L.pureOp hd (fun ρ w s => by
    have h1 := s hx
    have h2 := s hy
    subst hi
    simp only [execOp, h1, h2]
    have h3 := hz w
    simp [Instr.indexAt, run_underlying hU, asIntOf, h3, hl, add_lit, Instr.sureAddr]) next
/-- .. of elements of one cell, from the block's beginning on -/
theorem L.idxA1 {t e : TypeId} {x y : Operand} {b len i : Nat} {k : IntKind} {iv : Int} (hd : Nat.blt d n = true) (hU : P.underlying t = some (.array len e)) (hz : Sz P e 1) (hx : ev K x = some (.pointer (some ⟨b, 0, none⟩))) (hy : ev K y = some (.int k iv))
    (hi : iv = (i : Int)) (hl : i < len) (next : TL m P σ n ops Q rest ((d, .pointer (some ⟨b, i, none⟩)) :: K) D M) :
    TL m P σ n ops Q (⟨some d, .indexAddr t x y, ty, pos, aft, none⟩ :: rest) K D M :=
  L.idxA hd hU hz hx hy hi hl (by rw [Nat.zero_add, Nat.mul_one]; exact next)
theorem L.indexV {t e : TypeId} {x y : Operand} {len i : Nat} {k : IntKind} {iv : Int} {cs : List Value} {v : Value} (hd : Nat.blt d n = true) (hU : P.underlying t = some (.array len e)) (hz : Sc P e) (hx : ev K x = some (.agg cs.toArray)) (hy : ev K y = some (.int k iv))
    (hi : iv = (i : Int)) (hl : i < len) (hv : cs[i]? = some v) (next : TL m P σ n ops Q rest ((d, v) :: K) D M) :
    TL m P σ n ops Q (⟨some d, .index t x y, ty, pos, aft, none⟩ :: rest) K D M :=
  L.pureOp hd (fun ρ w s => by
    have h1 := s hx
    have h2 := s hy
    subst hi
    simp only [execOp, h1, h2]
    have h3 := (hz w).2
    have h4 := (hz w).1
    simp [Instr.index, run_underlying hU, asIntOf, h3, hl, Go.part, h4, hv]) next
theorem SetAt.idx {α : Type} {l : List α} {f : α → Value} {i : Nat} {x : α} {v : Value} (hv : v = f x) (h : i < l.length) : SetAt (l.map f) i [v] ((l.set i x).map f) := by
  subst hv; rw [List.map_set]; exact SetAt.set (by simpa using h)
theorem AtN.idx {α : Type} {l : List α} {f : α → Value} {i : Nat} {x : α} (h : l[i]? = some x) : AtN 1 (l.map f) i [f x] := AtN.one (by simp [h])
theorem AtN.cut {cs : List Value} {o k : Nat} (h : o + k ≤ cs.length) : AtN k cs o ((cs.drop o).take k) := ⟨by simp; omega, fun i v hv => by
  have hi := (List.getElem?_eq_some_iff.1 hv).1
  simp at hi
  rw [List.getElem?_take_of_lt (by omega), List.getElem?_drop] at hv; exact hv⟩

/-- the i-th -/
def gd {α : Type} [Inhabited α] (l : List α) (i : Nat) : α := l.getD i default
theorem gd_get {α : Type} [Inhabited α] {l : List α} {i : Nat} (h : i < l.length) : l[i]? = some (gd l i) := by simp [gd, h]
theorem AtN.idxD {α : Type} [Inhabited α] {l : List α} {f : α → Value} {i : Nat} (h : i < l.length) : AtN 1 (l.map f) i [f (gd l i)] := AtN.idx (gd_get h)
theorem AtN.idxL {α : Type} [Inhabited α] {l : List α} {f : α → Value} {i : Nat} {r : List Value} (h : i < l.length) : AtN 1 (l.map f ++ r) i [f (gd l i)] := AtN.one (by rw [List.getElem?_append_left (by simpa using h)]; simp [gd, h])
theorem AtN.tail {us cs vs : List Value} {k j off : Nat} (o' : Nat) (hj : us.length = j) (ho : off = j + o') (h : AtN k cs o' vs) : AtN k (us ++ cs) off vs := by subst ho; exact AtN.shift hj h
theorem SetAt.idxL {α : Type} {l : List α} {f : α → Value} {i : Nat} {x : α} {v : Value} {r : List Value} (hv : v = f x) (h : i < l.length) : SetAt (l.map f ++ r) i [v] ((l.set i x).map f ++ r) := by
  subst hv
  have h' : i < (l.map f).length := by simpa using h
  have := SetAt.set (cs := l.map f ++ r) (off := i) (v := f x) (by simp; omega)
  rwa [List.set_append_left _ _ h', ← List.map_set] at this
theorem SetAt.tail {us cs vs cs' : List Value} {j off : Nat} (o' : Nat) (hj : us.length = j) (ho : off = j + o') (h : SetAt cs o' vs cs') : SetAt (us ++ cs) off vs (us ++ cs') := by subst ho; exact SetAt.shift hj h
theorem set_gd {α : Type} [Inhabited α] {l : List α} {i : Nat} : l.set i (gd l i) = l := by
  apply List.ext_getElem?
  intro j
  rw [List.getElem?_set]
  split
  · rename_i h; subst h
    split
    · rename_i h2; simp [gd, h2]
    · rename_i h2; simp; omega
  · rfl
theorem gd_set {α : Type} [Inhabited α] {l : List α} {i j : Nat} {x : α} (h : i < l.length) : gd (l.set i x) j = if i = j then x else gd l j := by
  unfold gd
  simp only [List.getD_eq_getElem?_getD, List.getElem?_set]
  split
  · simp [h]
  · rfl
/-! ## a part of a slice, of an array -/
def BdV (v : Option Value) (dflt x : Nat) : Prop := (v = none ∧ x = dflt) ∨ ∃ k, v = some (.int k (x : Int))
/-- a bound that is an operand or left out -/
def Bd (K : Env) (o : Option Operand) (dflt x : Nat) : Prop := (o = none ∧ x = dflt) ∨ ∃ y k z, o = some y ∧ ev K y = some (.int k z) ∧ z = (x : Int)
theorem Bd.no {dflt : Nat} : Bd K none dflt dflt := .inl ⟨rfl, rfl⟩
theorem Bd.at {dflt x : Nat} {y : Operand} {k : IntKind} {z : Int} (h : ev K y = some (.int k z)) (e : z = (x : Int)) : Bd K (some y) dflt x := .inr ⟨y, k, z, rfl, h, e⟩
theorem Bd.val {o : Option Operand} {dflt x : Nat} {ρ : Operand → Value} (h : Bd K o dflt x) (s : Ev K ρ) : BdV (o.map ρ) dflt x := by
  rcases h with ⟨rfl, rfl⟩ | ⟨y, k, z, rfl, h, rfl⟩
  · exact .inl ⟨rfl, rfl⟩
  · exact .inr ⟨k, by simp [s h]⟩
theorem run_bounds {isS : Bool} {len cap l h : Nat} {lv hv : Option Value} (w : World) (hh : BdV hv len h) (hl : BdV lv 0 l) (h1 : l ≤ h) (h2 : h ≤ cap) : (Instr.sliceBounds isS len cap lv hv none).run P w = .ok (l, h, cap) w := by
  rcases hh with ⟨rfl, rfl⟩ | ⟨kh, rfl⟩ <;> rcases hl with ⟨rfl, rfl⟩ | ⟨kl, rfl⟩ <;> simp [Instr.sliceBounds, run_sliceBound, h1, h2]
def cutA (a : Option Addr) (cap l sz : Nat) : Option Addr := if cap = l then a else a.map (·.add (l * sz))
theorem L.sliceSl {t e : TypeId} {x : Operand} {lo hi : Option Operand} {a : Option Addr} {len cap l h sz : Nat} (hd : Nat.blt d n = true) (hU : P.underlying t = some (.slice e)) (hz : Sz P e sz) (hx : ev K x = some (.slice a len cap)) (hlo : Bd K lo 0 l) (hhi : Bd K hi len h)
    (h1 : l ≤ h) (h2 : h ≤ cap) (next : TL m P σ n ops Q rest ((d, .slice (cutA a cap l sz) (h - l) (cap - l)) :: K) D M) :
    TL m P σ n ops Q (⟨some d, .slice t x lo hi none, ty, pos, aft, none⟩ :: rest) K D M :=
  L.pureOp hd (fun ρ w s => by
    have e1 := s hx
    have e2 := run_bounds (P := P) (isS := true) w (hhi.val s) (hlo.val s) h1 h2
    have e3 := hz w
    simp only [execOp, e1, Option.map_none]
    simp [Instr.sliceAt, run_underlying hU, Instr.slice, e2, e3, cutA]) next
/-- s[:h] -/
theorem L.sliceTo {t e : TypeId} {x : Operand} {hi : Option Operand} {a : Option Addr} {len cap h sz : Nat} (hd : Nat.blt d n = true) (hU : P.underlying t = some (.slice e)) (hz : Sz P e sz) (hx : ev K x = some (.slice a len cap)) (hhi : Bd K hi len h)
    (h2 : h ≤ cap) (next : TL m P σ n ops Q rest ((d, .slice a h cap) :: K) D M) :
    TL m P σ n ops Q (⟨some d, .slice t x none hi none, ty, pos, aft, none⟩ :: rest) K D M :=
  L.sliceSl hd hU hz hx Bd.no hhi (Nat.zero_le _) h2 (by
    have e : cutA a cap 0 sz = a := by
      unfold cutA
      split
      · rfl
      · cases a with
        | none => rfl
        | some p => simp [Addr.add]
    rw [e]; exact next)
/-- the whole of an array, or a part, from its first cell's place on -/
theorem L.sliceArr {t e : TypeId} {x : Operand} {lo hi : Option Operand} {p : Addr} {len l h sz : Nat} (hd : Nat.blt d n = true) (hU : P.underlying t = some (.array len e)) (hz : Sz P e sz) (hx : ev K x = some (.pointer (some p))) (hlo : Bd K lo 0 l) (hhi : Bd K hi len h)
    (h1 : l ≤ h) (h2 : h ≤ len) (next : TL m P σ n ops Q rest ((d, .slice (cutA (some p) len l sz) (h - l) (len - l)) :: K) D M) :
    TL m P σ n ops Q (⟨some d, .slice t x lo hi none, ty, pos, aft, none⟩ :: rest) K D M :=
  L.pureOp hd (fun ρ w s => by
    have e1 := s hx
    have e2 := run_bounds (P := P) (isS := false) w (hhi.val s) (hlo.val s) h1 h2
    have e3 := hz w
    simp only [execOp, e1, Option.map_none]
    have e4 : cutA (some p) len l sz = some (if len = l then p else p.add (l * sz)) := by unfold cutA; split <;> rfl
    rw [e4]
    simp [Instr.sliceAt, run_underlying hU, Instr.sureAddr, e2, e3]) next
/-- copy within, or into, an own block -/
theorem L.copyCl {td ts e tb : TypeId} {x y : Operand} {b o dl dc sl sc b2 o2 k : Nat} {cs vs cs' : List Value} {M' : List Asn} (hd : Nat.blt d n = true) (hU : P.underlying td = some (.slice e)) (hz : Sz P e 1) (hx : ev K x = some (.slice (some ⟨b, o, none⟩) dl dc)) (hy : ev K y = some (.slice (some ⟨b2, o2, none⟩) sl sc))
    (hk : Nat.min sl dl = k) (hc : CellsN σ D M b2 o2 k vs) (h1 : ∀ u ∈ vs, u.oneCell' = true) (hu : Upd (cl b tb cs) (cl b tb cs') M M') (hs : SetAt cs o vs cs')
    (next : TL none P σ n ops Q rest ((d, .int .i64 k) :: K) D M') : TL none P σ n ops Q (⟨some d, .call { callee := .builtin .copy, args := #[x, y], argTypes := #[td, ts] }, ty, pos, aft, none⟩ :: rest) K D M :=
  L.val hd (fun aa w s ss => by
    obtain ⟨O, e1, e2⟩ := hu
    have hb := (ss.ent e1).block (.head _)
    obtain ⟨hl, hc⟩ := hc
    obtain ⟨c, t', mk, hb2, hv⟩ := hc w ss
    have e3 := hz w
    have hld : (loadCells ⟨b2, o2, none⟩ k).run P w = .ok vs.toArray w := by
      rw [← hl]; exact run_loadCells_list (P := P) w _ vs (fun j v e => by rw [add_lit, cell_of hb2]; exact hv j v e)
    have h2 := run_storeCells_at P b o tb vs 0 cs.toArray w hb (by simpa using hs.1) h1
    simp only [Nat.add_zero] at h2
    refine ⟨_, ?_, ss.setB (o' := .cells cs'.toArray tb (0, 0)) ⟨O, e1, e2⟩⟩
    have ex : aa.eval x = _ := s.eval hx
    have ey : aa.eval y = _ := s.eval hy
    have h3 : Sem.run P (storeCells ⟨b, o, none⟩ vs) w = .ok () (setB w b (.cells cs'.toArray tb (0, 0))) := by
      rw [show (storeCells ⟨b, o, none⟩ vs) = storeCells ⟨b, o, none⟩ vs 0 from rfl, h2, setRow_setB hb, hs.2]
    simp [execOp, resolve, invoke, builtin, ex, ey, Builtin.copy_, run_underlying hU, Builtin.lenOf, hk, Builtin.firstCells, e3, hld, h3, goInt]) next
/-! ## facts about parts -/
theorem rowsAt_cut {sz off l h : Nat} {rows : List (List Value)} {c : Array Value} (H : RowsAt sz rows c off) : RowsAt sz ((rows.drop l).take (h - l)) c (off + l * sz) := fun i j r v h1 h2 => by
  have hi := (List.getElem?_eq_some_iff.1 h1).1
  simp at hi
  rw [List.getElem?_take_of_lt (by omega), List.getElem?_drop] at h1
  have := H (l + i) j r v h1 h2
  rw [show off + l * sz + i * sz + j = off + (l + i) * sz + j from by rw [Nat.add_mul]; omega]
  exact this
theorem rsl_cut {sz len cap l h : Nat} {a : Option Addr} {rows : List (List Value)} {z : Hp} (h1 : l ≤ h) (h2 : h ≤ len) (H : rsl sz a len cap rows z) : rsl sz (cutA a cap l sz) (h - l) (cap - l) ((rows.drop l).take (h - l)) z := by
  obtain ⟨q1, q2, q3, q4⟩ := H
  refine ⟨by simp; omega, by omega, fun r hr => q3 r (List.mem_of_mem_drop (List.mem_of_mem_take hr)), ?_⟩
  rcases q4 with rfl | ⟨b, off, c, t, m, rfl, e2, e3⟩
  · left; simp
  · by_cases hc : cap = l
    · left; apply List.length_eq_zero_iff.1; simp; omega
    · right
      refine ⟨b, off + l * sz, c, t, m, ?_, e2, rowsAt_cut e3⟩
      simp [cutA, hc, add_lit]
theorem rsl_to {sz len cap h : Nat} {a : Option Addr} {rows : List (List Value)} {z : Hp} (h2 : h ≤ len) (H : rsl sz a len cap rows z) : rsl sz a h cap (rows.take h) z := by
  obtain ⟨q1, q2, q3, q4⟩ := H
  refine ⟨by simp; omega, by omega, fun r hr => q3 r (List.mem_of_mem_take hr), ?_⟩
  rcases q4 with rfl | ⟨b, off, c, t, m, rfl, e2, e3⟩
  · left; simp
  · right
    refine ⟨b, off, c, t, m, rfl, e2, fun i j r v g1 g2 => ?_⟩
    have hi := (List.getElem?_eq_some_iff.1 g1).1
    simp at hi
    rw [List.getElem?_take_of_lt (by omega)] at g1
    exact e3 i j r v g1 g2
theorem own_cut {sz len cap l h : Nat} {e : TypeId} {a : Option Addr} {rows : List (List Value)} {z : Hp} (h1 : l ≤ h) (h2 : h ≤ len) (H : own sz e a len cap rows z) : own sz e (cutA a cap l sz) (h - l) (cap - l) ((rows.drop l).take (h - l)) z := by
  obtain ⟨q1, q2, q3, q4⟩ := H
  refine ⟨by simp; omega, by omega, fun r hr => q3 r (List.mem_of_mem_drop (List.mem_of_mem_take hr)), ?_⟩
  rcases q4 with ⟨rfl, rfl⟩ | ⟨b, off, cs, rfl, e2, e4, e3⟩
  · left; simp [cutA]
  · right
    by_cases hc : cap = l
    · refine ⟨b, off, cs, by simp [cutA, hc], e2, ?_, ?_⟩
      · rw [show cap - l = 0 by omega]; omega
      · rw [show h - l = 0 by omega]; intro i j r v g; simp at g
    · refine ⟨b, off + l * sz, cs, by simp [cutA, hc, add_lit], e2, ?_, rowsAt_cut e3⟩
      rw [Nat.add_assoc, ← Nat.add_mul, show l + (cap - l) = cap by omega]; exact e4
theorem own_to {sz len cap h : Nat} {e : TypeId} {a : Option Addr} {rows : List (List Value)} {z : Hp} (h2 : h ≤ len) (H : own sz e a len cap rows z) : own sz e a h cap (rows.take h) z := by
  obtain ⟨q1, q2, q3, q4⟩ := H
  refine ⟨by simp; omega, by omega, fun r hr => q3 r (List.mem_of_mem_take hr), ?_⟩
  rcases q4 with q | ⟨b, off, cs, rfl, e2, e4, e3⟩
  · exact .inl q
  · right
    refine ⟨b, off, cs, rfl, e2, e4, fun i j r v g1 g2 => ?_⟩
    have hi := (List.getElem?_eq_some_iff.1 g1).1
    simp at hi
    rw [List.getElem?_take_of_lt (by omega)] at g1
    exact e3 i j r v g1 g2
/-- x[l:h] of a slice that may be read -/
theorem L.sliceR {t e : TypeId} {x : Operand} {lo hi : Option Operand} {a : Option Addr} {len cap l h sz : Nat} {rows : List (List Value)} (hd : Nat.blt d n = true) (hU : P.underlying t = some (.slice e)) (hz : Sz P e sz) (hx : ev K x = some (.slice a len cap)) (hlo : Bd K lo 0 l) (hhi : Bd K hi len h)
    (hm : rsl sz a len cap rows ∈ D) (h1 : l ≤ h) (h2 : h ≤ len) (h3 : len ≤ cap) (next : ∀ a', TL m P σ n ops Q rest ((d, .slice a' (h - l) (cap - l)) :: K) (rsl sz a' (h - l) (cap - l) ((rows.drop l).take (h - l)) :: D) M) :
    TL m P σ n ops Q (⟨some d, .slice t x lo hi none, ty, pos, aft, none⟩ :: rest) K D M :=
  L.sliceSl hd hU hz hx hlo hhi h1 (by omega) (L.derive hm (fun z H => rsl_cut h1 h2 H) (next _))
/-- x[l:h] of one's own slice, which goes over -/
theorem L.sliceO {t e e' : TypeId} {x : Operand} {lo hi : Option Operand} {a : Option Addr} {len cap l h sz : Nat} {rows : List (List Value)} {N : List Asn} (hd : Nat.blt d n = true) (hU : P.underlying t = some (.slice e)) (hz : Sz P e sz) (hx : ev K x = some (.slice a len cap)) (hlo : Bd K lo 0 l) (hhi : Bd K hi len h)
    (hM : Pull (own sz e' a len cap rows) M N) (h1 : l ≤ h) (h2 : h ≤ len) (h3 : len ≤ cap) (next : ∀ a', TL none P σ n ops Q rest ((d, .slice a' (h - l) (cap - l)) :: K) D (own sz e' a' (h - l) (cap - l) ((rows.drop l).take (h - l)) :: N)) :
    TL none P σ n ops Q (⟨some d, .slice t x lo hi none, ty, pos, aft, none⟩ :: rest) K D M :=
  L.sliceSl hd hU hz hx hlo hhi h1 (by omega) (fun aa w s t => next _ aa w s ((t.ent hM).ent (Ent.imp fun z H => own_cut h1 h2 H)))
theorem T.ownLen {G : Act → World → Prop} {a : Option Addr} {len cap sz : Nat} {e : TypeId} {rows : List (List Value)} (hm : own sz e a len cap rows ∈ M) (next : rows.length = len → len ≤ cap → T σ n G K D M) : T σ n G K D M :=
  T.pure (p := rows.length = len ∧ len ≤ cap) hm (fun _ h => ⟨h.1, h.2.1⟩) (fun h => next h.1 h.2)
theorem T.rslLen2 {G : Act → World → Prop} {a : Option Addr} {len cap sz : Nat} {rows : List (List Value)} (hm : rsl sz a len cap rows ∈ D) (next : rows.length = len → len ≤ cap → T σ n G K D M) : T σ n G K D M :=
  T.fact (p := rows.length = len ∧ len ≤ cap) hm (fun _ h => ⟨h.1, h.2.1⟩) (fun h => next h.1 h.2)
/-- where a slice with elements lies -/
theorem T.rslAddr {G : Act → World → Prop} {a : Option Addr} {len cap sz : Nat} {rows : List (List Value)} (hm : rsl sz a len cap rows ∈ D) (hne : rows ≠ []) (next : ∀ b o, a = some ⟨b, o, none⟩ → T σ n G K D M) : T σ n G K D M :=
  T.fact (p := ∃ b o, a = some ⟨b, o, none⟩) hm (fun _ h => by
    obtain ⟨_, _, _, e | ⟨b, o, c, t, m, e, _⟩⟩ := h
    · exact absurd e hne
    · exact ⟨b, o, e⟩) (fun ⟨b, o, h⟩ => next b o h)
theorem T.ownAddr {G : Act → World → Prop} {a : Option Addr} {len cap sz : Nat} {e : TypeId} {rows : List (List Value)} (hm : own sz e a len cap rows ∈ M) (hne : rows ≠ []) (next : ∀ b o, a = some ⟨b, o, none⟩ → T σ n G K D M) : T σ n G K D M :=
  T.pure (p := ∃ b o, a = some ⟨b, o, none⟩) hm (fun _ h => by
    obtain ⟨q1, q2, _, ⟨_, e⟩ | ⟨b, o, cs, e, _⟩⟩ := h
    · exact absurd (List.length_eq_zero_iff.1 (by omega)) hne
    · exact ⟨b, o, e⟩) (fun ⟨b, o, h⟩ => next b o h)
/-- an element of a slice whose place is known -/
theorem L.idxR {t e : TypeId} {x y : Operand} {b o len cap i sz : Nat} {k : IntKind} {iv : Int} {rows : List (List Value)} {r : List Value} (hd : Nat.blt d n = true) (hU : P.underlying t = some (.slice e)) (hz : Sz P e sz) (hx : ev K x = some (.slice (some ⟨b, o, none⟩) len cap)) (hy : ev K y = some (.int k iv))
    (hm : rsl sz (some ⟨b, o, none⟩) len cap rows ∈ D) (hi : iv = (i : Int)) (hl : i < len) (hr : rows[i]? = some r) (next : TL m P σ n ops Q rest ((d, .pointer (some ⟨b, o + i * sz, none⟩)) :: K) (rcs b (o + i * sz) r :: D) M) :
    TL m P σ n ops Q (⟨some d, .indexAddr t x y, ty, pos, aft, none⟩ :: rest) K D M :=
  L.idxG hd hU hz hx hy hi hl (L.derive hm (fun z hz' => by
    obtain ⟨b', o', e1, e2⟩ := rsl_cells hz' hr
    injection e1 with e1; injection e1 with e3 e4
    subst e3; subst e4; exact e2) next)
/-! ## unsigned 64 -/
theorem wrap_u64 {z : Int} (h1 : 0 ≤ z) (h2 : z ≤ 18446744073709551615) : IntKind.u64.wrap z = z := by
  have e : IntKind.u64.wrap z = z % 2 ^ 64 := by simp [IntKind.wrap, IntKind.signed, IntKind.bits]
  rw [e]; exact Int.emod_eq_of_lt h1 (by omega)
theorem L.addU {x y : Operand} {t t' : TypeId} {a b : Int} (hd : Nat.blt d n = true) (hx : ev K x = some (.int .u64 a)) (hy : ev K y = some (.int .u64 b)) (hw : 0 ≤ a + b ∧ a + b ≤ 18446744073709551615) (next : TL m P σ n ops Q rest ((d, .int .u64 (a + b)) :: K) D M) :
    TL m P σ n ops Q (⟨some d, .binOp .add t x y t', ty, pos, aft, none⟩ :: rest) K D M :=
  L.addI hd hx hy (by rw [wrap_u64 hw.1 hw.2]; exact next)
theorem L.subU {x y : Operand} {t t' : TypeId} {a b : Int} (hd : Nat.blt d n = true) (hx : ev K x = some (.int .u64 a)) (hy : ev K y = some (.int .u64 b)) (hw : 0 ≤ a - b ∧ a - b ≤ 18446744073709551615) (next : TL m P σ n ops Q rest ((d, .int .u64 (a - b)) :: K) D M) :
    TL m P σ n ops Q (⟨some d, .binOp .sub t x y t', ty, pos, aft, none⟩ :: rest) K D M :=
  L.subI hd hx hy (by rw [wrap_u64 hw.1 hw.2]; exact next)
theorem L.mulU {x y : Operand} {t t' : TypeId} {a b : Int} (hd : Nat.blt d n = true) (hx : ev K x = some (.int .u64 a)) (hy : ev K y = some (.int .u64 b)) (hw : 0 ≤ a * b ∧ a * b ≤ 18446744073709551615) (next : TL m P σ n ops Q rest ((d, .int .u64 (a * b)) :: K) D M) :
    TL m P σ n ops Q (⟨some d, .binOp .mul t x y t', ty, pos, aft, none⟩ :: rest) K D M :=
  L.mulI hd hx hy (by rw [wrap_u64 hw.1 hw.2]; exact next)
theorem L.convU {x : Operand} {src dst : TypeId} {k' : IntKind} {z : Int} {s : TypeDesc} (hd : Nat.blt d n = true) (hS : P.underlying src = some s) (hU : P.underlying dst = some (.int .u64)) (hx : ev K x = some (.int k' z)) (hw : 0 ≤ z ∧ z ≤ 18446744073709551615) (next : TL m P σ n ops Q rest ((d, .int .u64 z) :: K) D M) :
    TL m P σ n ops Q (⟨some d, .convert src dst x, ty, pos, aft, none⟩ :: rest) K D M :=
  L.convI hd hS hU hx (by rw [wrap_u64 hw.1 hw.2]; exact next)
theorem L.convN {x : Operand} {src dst : TypeId} {k' : IntKind} {z : Int} {s : TypeDesc} (hd : Nat.blt d n = true) (hS : P.underlying src = some s) (hU : P.underlying dst = some (.int .i64)) (hx : ev K x = some (.int k' z)) (hw : -9223372036854775808 ≤ z ∧ z ≤ 9223372036854775807) (next : TL m P σ n ops Q rest ((d, .int .i64 z) :: K) D M) :
    TL m P σ n ops Q (⟨some d, .convert src dst x, ty, pos, aft, none⟩ :: rest) K D M :=
  L.convI hd hS hU hx (by rw [wrap_i64 hw.1 hw.2]; exact next)
end
theorem bua_of {P : Program} {t e : TypeId} {len k : Nat} {z : Value} {zs : List Value} (hU : P.underlying t = some (.array len e)) (hz : ∀ w, (zeroValue t).run P w = .ok z w) (hzs : z.cells = zs.toArray) (hs : Sz P e k) : Bu P t zs (fun (i : Nat) => some (i * k, k)) := fun parts w cs h => by
  have hs' := hs w
  simp [Instr.build, hz, run_underlying hU, hzs, hs', h]
theorem run_eqArr {P : Program} {t e : TypeId} {len : Nat} {k : IntKind} {xs ys : List Int} (hU : P.underlying t = some (.array len e)) (hE : P.underlying e = some (.int k)) (hz : Sc P e) (hx : xs.length = len) (hy : ys.length = len) (w : World) :
    (Op.equal t (.agg (xs.map (Value.int k)).toArray) (.agg (ys.map (Value.int k)).toArray)).run P w = .ok (decide (xs = ys)) w := by
  have h2 := (hz w).2
  have h1 := (hz w).1
  rw [show Op.equal t = Op.equalIn (9999 + 1) t from rfl, Op.equalIn]
  simp only [Sem.run_bind, run_underlying hU, Result.andThen, h2]
  simp only [Std.Legacy.Range.forIn_eq_forIn_range', Std.Legacy.Range.size]
  have key : ∀ (m o : Nat), o + m = len → (Sem.run P (forIn (List.range' o m 1) ((none, ()) : Option Bool × Unit) fun i (_ : Option Bool × Unit) => do
          let a ← Go.part e (List.map (Value.int k) xs).toArray (i * 1)
          let b ← Go.part e (List.map (Value.int k) ys).toArray (i * 1)
          let c ← Op.equalIn 9999 e a b
          if (!c) = true then pure (ForInStep.done (some false, ())) else pure (ForInStep.yield (none, ()))) w) = .ok (if xs.drop o = ys.drop o then none else some false, ()) w := by
    intro m
    induction m with
    | zero => intro o h; rw [List.drop_eq_nil_of_le (by omega), List.drop_eq_nil_of_le (by omega)]; simp
    | succ m ih =>
      intro o h
      have ox : o < xs.length := by omega
      have oy : o < ys.length := by omega
      have e1 := List.drop_eq_getElem_cons ox
      have e2 := List.drop_eq_getElem_cons oy
      rw [List.range'_succ, List.forIn_cons]
      simp only [Sem.run_bind, Nat.mul_one]
      have p1 : ∀ (l : List Int) (hl : o < l.length), (Go.part e (List.map (Value.int k) l).toArray o).run P w = .ok (.int k l[o]) w := fun l hl => by
        simp [Go.part, h1, hl]
      rw [p1 xs ox, Result.andThen_ok, p1 ys oy, Result.andThen_ok, run_equalIn_int w 9998 e k k _ _ hE, Result.andThen_ok]
      by_cases hq : xs[o] = ys[o]
      · have := ih (o + 1) (by omega)
        simp only [Nat.mul_one] at this
        simp only [hq, beq_self_eq_true, Bool.not_true, Bool.false_eq_true, if_false, Sem.run_pure, Result.andThen_ok, this, e1, e2, List.cons.injEq, true_and]
      · have hne : ¬ (xs.drop o = ys.drop o) := by rw [e1, e2]; simp only [List.cons.injEq, not_and]; exact fun h => absurd h hq
        have hb : (xs[o] == ys[o]) = false := by simpa using hq
        simp only [hb, hne, Bool.not_false, if_true, if_false, Sem.run_pure, Result.andThen_ok]
  have := key len 0 (by omega)
  simp only [Nat.mul_one, List.drop_zero] at this
  simp only [Nat.mul_one, Nat.sub_zero, Nat.add_sub_cancel, Nat.div_one, this]
  by_cases h : xs = ys <;> simp [h]
section
variable {P : Program} {σ : World} {n : Nat} {Q : Post} {K : Env} {D M : List Asn} {m : Option (List Asn × List Asn)} {ops : Array Oper} {rest : List Oper} {d : Nat} {ty : TypeId} {pos : String} {aft : Array Edge}
theorem Y_int (l : List UInt8) : l.map Y = (l.map (fun b => (b.toNat : Int))).map (Value.int .u8) := by simp [Y]
theorem toNat_inj {l l' : List UInt8} : (l.map (fun b => (b.toNat : Int)) = l'.map (fun b => (b.toNat : Int))) ↔ l = l' := by
  constructor
  · intro h
    have : Function.Injective (fun b : UInt8 => (b.toNat : Int)) := fun a b h => by
      have h' : a.toNat = b.toNat := Int.ofNat.inj h
      exact UInt8.toNat_inj.1 h'
    exact List.map_inj_right (fun a b h => this h) |>.1 h
  · rintro rfl; rfl
theorem L.eqlArrI {t t' e : TypeId} {len : Nat} {x y : Operand} {l l' : List UInt8} (hG : P.eqGuardType P.depth t = false) (hd : Nat.blt d n = true) (hU : P.underlying t = some (.array len e)) (hE : P.underlying e = some (.int .u8)) (hz : Sc P e) (hx : ev K x = some (.agg (l.map Y).toArray)) (hy : ev K y = some (.agg (l'.map Y).toArray))
    (h1 : l.length = len) (h2 : l'.length = len) (next : TL m P σ n ops Q rest ((d, .bool (decide (l = l'))) :: K) D M) :
    TL m P σ n ops Q (⟨some d, .binOp .eql t x y t', ty, pos, aft, none⟩ :: rest) K D M :=
  L.pureOp hd (fun ρ w s => by
    have e1 := s hx
    have e2 := s hy
    rw [Y_int] at e1 e2
    have := run_eqArr hU hE hz (xs := l.map (fun b => (b.toNat : Int))) (ys := l'.map (fun b => (b.toNat : Int))) (by simpa using h1) (by simpa using h2) w
    simp only [execOp, e1, e2]
    simp only [Sem.run_bind, run_eqGuard_agg w .eql t x y _ _ hG, Result.andThen_ok, Go.binOp, this, toNat_inj]
    simp) next
theorem L.neqArrI {t t' e : TypeId} {len : Nat} {x y : Operand} {l l' : List UInt8} (hG : P.eqGuardType P.depth t = false) (hd : Nat.blt d n = true) (hU : P.underlying t = some (.array len e)) (hE : P.underlying e = some (.int .u8)) (hz : Sc P e) (hx : ev K x = some (.agg (l.map Y).toArray)) (hy : ev K y = some (.agg (l'.map Y).toArray))
    (h1 : l.length = len) (h2 : l'.length = len) (next : TL m P σ n ops Q rest ((d, .bool (decide (l ≠ l'))) :: K) D M) :
    TL m P σ n ops Q (⟨some d, .binOp .neq t x y t', ty, pos, aft, none⟩ :: rest) K D M :=
  L.pureOp hd (fun ρ w s => by
    have e1 := s hx
    have e2 := s hy
    rw [Y_int] at e1 e2
    have := run_eqArr hU hE hz (xs := l.map (fun b => (b.toNat : Int))) (ys := l'.map (fun b => (b.toNat : Int))) (by simpa using h1) (by simpa using h2) w
    simp only [execOp, e1, e2]
    simp only [Sem.run_bind, run_eqGuard_agg w .neq t x y _ _ hG, Result.andThen_ok, Go.binOp, this, toNat_inj]
    simp) next
theorem L.callB1 {f : FuncId} {xs : List Operand} {ats : Array TypeId} {args : List Value} {M0 F N : List Asn} {A φ : Asn} {R : Value → List Asn → List Asn → Prop} (hd : Nat.blt d n = true) (hx : evs K xs args) (hM : Sel M0 M N) (hB : Pull A N F) (hi : ∀ z, A z → φ z)
    (hS : Spec P f args [φ] M0 R) (next : ∀ v D' M', R v D' M' → TL none P σ n ops Q rest ((d, v) :: K) ([] ++ D) ((A :: M') ++ F)) :
    TL none P σ n ops Q (⟨some d, .call { callee := .value (.func f), args := xs.toArray, argTypes := ats }, ty, pos, aft, none⟩ :: rest) K D M :=
  L.callB hd hx hM (B := [A]) hB (.own (.head _) hi .nil) hS next
end
end Cv
namespace Cv
open Go
theorem T.eqv {σ : World} {n : Nat} {G : Act → World → Prop} {K : Env} {D M N : List Asn} {A B : Asn} (hM : Pull A M N) (e : A = B) (h : T σ n G K D (B :: N)) : T σ n G K D M := by
  subst e; exact T.drop hM h
theorem L.eqv {P : Program} {σ : World} {n : Nat} {Q : Post} {K : Env} {D M N : List Asn} {ops : Array Oper} {l : List Oper} {A B : Asn} (hM : Pull A M N) (e : A = B) (h : TL none P σ n ops Q l K D (B :: N)) : TL none P σ n ops Q l K D M := T.eqv hM e h
theorem len8 {α : Type} {l : List α} (h : l.length = 8) : ∃ a b c d e f g i, l = [a, b, c, d, e, f, g, i] := by
  match l, h with
  | [a, b, c, d, e, f, g, i], _ => exact ⟨a, b, c, d, e, f, g, i, rfl⟩
end Cv
namespace Cv
theorem ex_get {α} {l : List α} {k : Nat} (h : k < l.length) : ∃ x, l[k]? = some x := ⟨_, List.getElem?_eq_getElem h⟩
theorem map_get {α β} {f : α → β} {l : List α} {k : Nat} {x : α} (h : l[k]? = some x) : (l.map f)[k]? = some (f x) := by simp [h]
end Cv

namespace Cv
open Go
theorem One.mapW {l : List (BitVec 32)} : ∀ u ∈ l.map W, u.oneCell' = true := by intro u hu; obtain ⟨x, _, rfl⟩ := List.mem_map.1 hu; rfl
theorem One.mapY {l : List UInt8} : ∀ u ∈ l.map Y, u.oneCell' = true := by intro u hu; obtain ⟨x, _, rfl⟩ := List.mem_map.1 hu; rfl
theorem One.app {l l' : List Value} (h : ∀ u ∈ l, u.oneCell' = true) (k : ∀ u ∈ l', u.oneCell' = true) : ∀ u ∈ l ++ l', u.oneCell' = true := fun u hu => (List.mem_append.1 hu).elim (h u) (k u)
end Cv
namespace Cv
open Go
section
variable {P : Program} {σ : World} {n : Nat} {Q : Post} {K : Env} {D M : List Asn} {m : Option (List Asn × List Asn)} {ops : Array Oper} {rest : List Oper} {d : Nat} {ty : TypeId} {pos : String} {aft : Array Edge}
theorem src_rsl {w : World} {a : Option Addr} {len cap sz : Nat} {t e : TypeId} {rows : List (List Value)} {y : Hp} (hk : P.underlying t = some (.slice e)) (h1 : ∀ u ∈ rows.flatten, u.oneCell' = true) (ly : Hp.le y (hp w)) (H : rsl sz a len cap rows y) : Go.Src P sz t (.slice a len cap) len rows.flatten w := by
  obtain ⟨q1, q2, q3, q4⟩ := H
  rcases q4 with rfl | ⟨b, off, c, t', mk, rfl, e2, e3⟩
  · simp at q1; subst q1
    cases a with
    | none => exact Go.Src.ofNil w hk cap
    | some p => exact Go.Src.ofSlice w hk p 0 cap [] (by simp) (by simp) (by simp)
  · exact Go.Src.ofSlice w hk ⟨b, off, none⟩ len cap _ (by rw [rows_flat_len q3, q1]) (fun j u hu => by rw [add_lit, cell_of (ly _ _ e2)]; exact rowsAt_flat q3 e3 j u hu) h1
/-- the rows of a slice that may be read, appended -/
theorem L.appendR {t t2 e e2 : TypeId} {x y : Operand} {a a2 : Option Addr} {len cap m c2 sz bytes : Nat} {rows news : List (List Value)} {N : List Asn} (hd : Nat.blt d n = true) (hU : P.underlying t = some (.slice e)) (hV : P.underlying t2 = some (.slice e2)) (hE : El P e sz bytes)
    (hx : ev K x = some (.slice a len cap)) (hy : ev K y = some (.slice a2 m c2)) (hM : Pull (own sz e a len cap rows) M N) (hs : ∀ w, Sat σ D M w → ∃ y, Hp.le y (hp w) ∧ rsl sz a2 m c2 news y) (h1 : ∀ u ∈ news.flatten, u.oneCell' = true)
    (hb : (len + m) * bytes ≤ 140737488355328) (hb' : len + m ≤ 4611686018427387904)
    (next : ∀ a' cap', TL none P σ n ops Q rest ((d, .slice a' (len + m) cap') :: K) D (own sz e a' (len + m) cap' (rows ++ news) :: N)) :
    TL none P σ n ops Q (⟨some d, .call { callee := .builtin .append, args := #[x, y], argTypes := #[t, t2] }, ty, pos, aft, none⟩ :: rest) K D M :=
  L.valEx hd (fun v D' M' => ∃ a' cap', v = .slice a' (len + m) cap' ∧ D' = D ∧ M' = own sz e a' (len + m) cap' (rows ++ news) :: N) (fun aa w s ss => by
    obtain ⟨y0, ly, H⟩ := hs w ss
    obtain ⟨a', cap', w', hrun, hS⟩ := append_src (ty := ty) hU hE hM (src_rsl hV h1 ly H) H.1 H.2.2.1 hb hb' ss
    refine ⟨_, _, _, w', ?_, ⟨a', cap', rfl, rfl, rfl⟩, hS⟩
    have ex : aa.eval x = _ := s.eval hx
    have ey : aa.eval y = _ := s.eval hy
    simp [execOp, resolve, invoke, builtin, ex, ey, hrun]) (fun v D' M' ⟨a', cap', e1, e2, e3⟩ => by subst e1; subst e2; subst e3; exact next a' cap')
theorem rd_D {φ : Asn} (h : φ ∈ D) : ∀ w, Sat σ D M w → ∃ y, Hp.le y (hp w) ∧ φ y := fun w s => s.fact h
theorem rd_M {sz len cap : Nat} {e : TypeId} {a : Option Addr} {rows : List (List Value)} (h : own sz e a len cap rows ∈ M) : ∀ w, Sat σ D M w → ∃ y, Hp.le y (hp w) ∧ rsl sz a len cap rows y := fun w s => by
  obtain ⟨y, l, H⟩ := s.own h
  exact ⟨y, l, rsl_of_own H⟩
theorem One.yr {l : List UInt8} : ∀ u ∈ (l.map yr).flatten, u.oneCell' = true := by
  intro u hu
  obtain ⟨r, hr, hu⟩ := List.mem_flatten.1 hu
  obtain ⟨b, _, rfl⟩ := List.mem_map.1 hr
  simp at hu; subst hu; rfl
end
end Cv
namespace Cv
open Go
section
variable {P : Program} {σ : World} {n : Nat} {Q : Post} {K : Env} {D M : List Asn} {ops : Array Oper}
theorem L.ownRsl {l : List Oper} {a : Option Addr} {len cap sz : Nat} {e : TypeId} {rows : List (List Value)} {N : List Asn} (hM : Pull (own sz e a len cap rows) M N) (next : TL none P σ n ops Q l K (rsl sz a len cap rows :: D) N) : TL none P σ n ops Q l K D M := T.ownRsl hM next
end
end Cv
namespace Cv
open Go
section
variable {σ : World} {n : Nat} {G : Act → World → Prop} {K : Env} {D M N : List Asn}
/-- the rows of one's own slice, said otherwise -/
theorem T.ownEq {sz len cap : Nat} {e : TypeId} {rows : List (List Value)} (a : Option Addr) (rows' : List (List Value)) (hM : Pull (own sz e a len cap rows) M N) (h : rows = rows') (next : T σ n G K D (own sz e a len cap rows' :: N)) : T σ n G K D M := by
  subst h; exact T.drop hM next
/-- the cells of a block, said otherwise -/
theorem T.clEq {t : TypeId} {cs : List Value} (b : Nat) (cs' : List Value) (hM : Pull (cl b t cs) M N) (h : cs = cs') (next : T σ n G K D (cl b t cs' :: N)) : T σ n G K D M := by
  subst h; exact T.drop hM next
theorem L.ownEq {P : Program} {Q : Post} {ops : Array Oper} {l : List Oper} {sz len cap : Nat} {e : TypeId} {rows : List (List Value)} (a : Option Addr) (rows' : List (List Value)) (hM : Pull (own sz e a len cap rows) M N) (h : rows = rows') (next : TL none P σ n ops Q l K D (own sz e a len cap rows' :: N)) : TL none P σ n ops Q l K D M := T.ownEq a rows' hM h next
theorem L.clEq {P : Program} {Q : Post} {ops : Array Oper} {l : List Oper} {t : TypeId} {cs : List Value} (b : Nat) (cs' : List Value) (hM : Pull (cl b t cs) M N) (h : cs = cs') (next : TL none P σ n ops Q l K D (cl b t cs' :: N)) : TL none P σ n ops Q l K D M := T.clEq b cs' hM h next
end
end Cv
namespace Cv
theorem map_snoc {α β : Type} {f : α → β} {l : List α} {x : α} : (l ++ [x]).map f = l.map f ++ [f x] := by simp
end Cv
