/-
  My own library for walks (CvArr CvCut CvEach CvMore CvAuto CvAli CvFn CvFcs): separation logic over the calls of the kit; no statement of this seat stands here.
-/
import Derived.Test.YtncgoodlhmpfcaaGreatCvLb
import Derived.Laws.CopyRow
import Derived.Laws.StructEq
set_option linter.all false
namespace Cv
open Go
/-! ## borrowing for a call -/
theorem Sat.lend {σ w : World} {D D0 M0 B F : List Asn} (h : Sat σ D (M0 ++ (B ++ F)) w) (hD : ∀ φ ∈ D0, φ ∈ D ∨ ∃ A ∈ B, ∀ z, A z → φ z) :
    ∃ X : Hp, ∃ Z : Hp, Sat σ (D0 ++ [fun y => Hp.le X y]) (M0 ++ F) w ∧ ∀ D' M' w', Sat σ (D' ++ [fun y => Hp.le X y]) (M' ++ F) w' → Sat σ D (B ++ (M' ++ F)) w' := by
  obtain ⟨z, k, a, b, c, d, f⟩ := h.heap
  obtain ⟨k1, k2, l1, l2, d1, fM, fr⟩ := Holds.append.1 f
  obtain ⟨k3, k4, l3, l4, d2, fB, fF⟩ := Holds.append.1 fr
  have dz3 : Hp.disj z k3 := c.le (l3.trans l2)
  have d13 : Hp.disj k1 k3 := d1.le l3
  have d14 : Hp.disj k1 k4 := d1.le l4
  refine ⟨Hp.union z k3, z, ⟨h.os, h.tape, h.output, Hp.union z k3, Hp.union k1 k4, Hp.union_le a ((l3.trans l2).trans b), Hp.union_le (l1.trans b) ((l4.trans l2).trans b), ?_, ?_, ?_⟩, ?_⟩
  · refine Hp.disj_union ?_ ?_
    · exact (Hp.disj_union (c.le l1).symm (c.le (l4.trans l2)).symm).symm
    · exact (Hp.disj_union d13 d2.symm).symm
  · intro φ hφ
    rcases List.mem_append.1 hφ with q | q
    · rcases hD φ q with e | ⟨A, hA, i⟩
      · obtain ⟨y, ly, hy⟩ := d φ e
        exact ⟨y, ly.trans (Hp.le_union_left _ _), hy⟩
      · obtain ⟨y, ly, hy⟩ := fB.mem hA
        exact ⟨y, ly.trans (Hp.le_union_right dz3), i _ hy⟩
    · simp at q; subst q
      exact ⟨Hp.union z k3, Hp.le.refl _, Hp.le.refl _⟩
  · exact Holds.append.2 ⟨k1, k4, Hp.le_union_left _ _, Hp.le_union_right d14, d14, fM, fF⟩
  · intro D' M' w' h'
    obtain ⟨z', k', a', b', c', d', f'⟩ := h'.heap
    obtain ⟨y, ly, hy⟩ := d' (fun y => Hp.le (Hp.union z k3) y) (by simp)
    have hX : Hp.le (Hp.union z k3) z' := Hp.le.trans hy ly
    have hz : Hp.le z z' := (Hp.le_union_left _ _).trans hX
    have h3 : Hp.le k3 z' := (Hp.le_union_right dz3).trans hX
    refine ⟨h'.os, h'.tape, h'.output, z, Hp.union k3 k', hz.trans a', Hp.union_le (h3.trans a') b', ?_, d, Holds.append.2 ⟨k3, k', Hp.le_union_left _ _, Hp.le_union_right (c'.le2 h3), c'.le2 h3, fB, f'⟩⟩
    exact (Hp.disj_union dz3.symm (c'.le2 hz).symm).symm

section
variable {P : Program} {σ : World} {n : Nat} {Q : Post} {K : Env} {D M : List Asn} {m : Option (List Asn × List Asn)} {ops : Array Oper} {rest : List Oper} {d : Nat} {ty : TypeId} {pos : String} {aft : Array Edge}
def Lent (D B D0 : List Asn) : Prop := ∀ φ ∈ D0, φ ∈ D ∨ ∃ A ∈ B, ∀ z, A z → φ z
theorem Lent.nil {B : List Asn} : Lent D B [] := fun _ h => by cases h
theorem Lent.fact {B D0 : List Asn} {φ : Asn} (h : φ ∈ D) (k : Lent D B D0) : Lent D B (φ :: D0) := fun ψ hψ => by
  cases hψ with
  | head => exact .inl h
  | tail _ h' => exact k _ h'
theorem Lent.own {B D0 : List Asn} {φ A : Asn} (h : A ∈ B) (i : ∀ z, A z → φ z) (k : Lent D B D0) : Lent D B (φ :: D0) := fun ψ hψ => by
  cases hψ with
  | head => exact .inr ⟨A, h, i⟩
  | tail _ h' => exact k _ h'
theorem L.callB {f : FuncId} {xs : List Operand} {ats : Array TypeId} {args : List Value} {D0 M0 F N B : List Asn} {R : Value → List Asn → List Asn → Prop} (hd : Nat.blt d n = true) (hx : evs K xs args) (hM : Sel M0 M N) (hB : Sel B N F) (hD : Lent D B D0)
    (hS : Spec P f args D0 M0 R) (next : ∀ v D' M', R v D' M' → TL none P σ n ops Q rest ((d, v) :: K) D (B ++ (M' ++ F))) :
    TL none P σ n ops Q (⟨some d, .call { callee := .value (.func f), args := xs.toArray, argTypes := ats }, ty, pos, aft, none⟩ :: rest) K D M :=
  L.op rfl (fun _ _ _ _ c hc => by cases hc) fun a w s t K' hK' => by
    unfold Oper.wp
    rw [call_run s hx hS]
    obtain ⟨X, Z, h1, h2⟩ := Sat.lend (t.ent (hM.trans (Ent.append (Ent.refl _) hB))) hD
    refine (hS.run σ _ F w h1).mono ?_
    rintro e w' ⟨v, D', M', rfl, hR, hs⟩
    exact hK' _ _ (next v D' M' hR _ _ (s.put v hd) (h2 D' M' w' hs))
/-! ## arrays -/
theorem L.idxA {t e : TypeId} {x y : Operand} {b o len i sz : Nat} {k : IntKind} {iv : Int} (hd : Nat.blt d n = true) (hU : P.underlying t = some (.array len e)) (hz : Sz P e sz) (hx : ev K x = some (.pointer (some ⟨b, o, none⟩))) (hy : ev K y = some (.int k iv))
    (hi : iv = (i : Int)) (hl : i < len) (next : TL m P σ n ops Q rest ((d, .pointer (some ⟨b, o + i * sz, none⟩)) :: K) D M) :
    TL m P σ n ops Q (⟨some d, .indexAddr t x y, ty, pos, aft, none⟩ :: rest) K D M :=
  L.pureOp hd (fun ρ w s => by
    have h1 := s hx
    have h2 := s hy
    subst hi
    simp only [execOp, h1, h2]
    have h3 := hz w
    simp [Instr.indexAt, run_underlying hU, asIntOf, h3, hl, add_lit, Instr.sureAddr]) next
theorem L.idxA1 {t e : TypeId} {x y : Operand} {b len i : Nat} {k : IntKind} {iv : Int} (hd : Nat.blt d n = true) (hU : P.underlying t = some (.array len e)) (hz : Sz P e 1) (hx : ev K x = some (.pointer (some ⟨b, 0, none⟩))) (hy : ev K y = some (.int k iv))
    (hi : iv = (i : Int)) (hl : i < len) (next : TL m P σ n ops Q rest ((d, .pointer (some ⟨b, i, none⟩)) :: K) D M) :
    TL m P σ n ops Q (⟨some d, .indexAddr t x y, ty, pos, aft, none⟩ :: rest) K D M :=
  L.idxA hd hU hz hx hy hi hl (by rw [Nat.zero_add, Nat.mul_one]; exact next)
theorem L.indexV {t e : TypeId} {x y : Operand} {len i : Nat} {k : IntKind} {iv : Int} {cs : List Value} {v : Value} (hd : Nat.blt d n = true) (hU : P.underlying t = some (.array len e)) (hz : Sc P e) (hx : ev K x = some (.agg cs.toArray)) (hy : ev K y = some (.int k iv))
    (hi : iv = (i : Int)) (hl : i < len) (hv : cs[i]? = some v) (next : TL m P σ n ops Q rest ((d, v) :: K) D M) :
    TL m P σ n ops Q (⟨some d, .index t x y, ty, pos, aft, none⟩ :: rest) K D M :=
  L.pureOp hd (fun ρ w s => by
    have h1 := s hx
    have h2 := s hy
    subst hi
    simp only [execOp, h1, h2]
    have h3 := (hz w).2
    have h4 := (hz w).1
    simp [Instr.index, run_underlying hU, asIntOf, h3, hl, Go.part, h4, hv]) next
theorem SetAt.idx {α : Type} {l : List α} {f : α → Value} {i : Nat} {x : α} {v : Value} (hv : v = f x) (h : i < l.length) : SetAt (l.map f) i [v] ((l.set i x).map f) := by
  subst hv; rw [List.map_set]; exact SetAt.set (by simpa using h)
theorem AtN.idx {α : Type} {l : List α} {f : α → Value} {i : Nat} {x : α} (h : l[i]? = some x) : AtN 1 (l.map f) i [f x] := AtN.one (by simp [h])
theorem AtN.cut {cs : List Value} {o k : Nat} (h : o + k ≤ cs.length) : AtN k cs o ((cs.drop o).take k) := ⟨by simp; omega, fun i v hv => by
  have hi := (List.getElem?_eq_some_iff.1 hv).1
  simp at hi
  rw [List.getElem?_take_of_lt (by omega), List.getElem?_drop] at hv; exact hv⟩

def gd {α : Type} [Inhabited α] (l : List α) (i : Nat) : α := l.getD i default
theorem gd_get {α : Type} [Inhabited α] {l : List α} {i : Nat} (h : i < l.length) : l[i]? = some (gd l i) := by simp [gd, h]
theorem AtN.idxD {α : Type} [Inhabited α] {l : List α} {f : α → Value} {i : Nat} (h : i < l.length) : AtN 1 (l.map f) i [f (gd l i)] := AtN.idx (gd_get h)
theorem AtN.idxL {α : Type} [Inhabited α] {l : List α} {f : α → Value} {i : Nat} {r : List Value} (h : i < l.length) : AtN 1 (l.map f ++ r) i [f (gd l i)] := AtN.one (by rw [List.getElem?_append_left (by simpa using h)]; simp [gd, h])
theorem AtN.tail {us cs vs : List Value} {k j off : Nat} (o' : Nat) (hj : us.length = j) (ho : off = j + o') (h : AtN k cs o' vs) : AtN k (us ++ cs) off vs := by subst ho; exact AtN.shift hj h
theorem SetAt.idxL {α : Type} {l : List α} {f : α → Value} {i : Nat} {x : α} {v : Value} {r : List Value} (hv : v = f x) (h : i < l.length) : SetAt (l.map f ++ r) i [v] ((l.set i x).map f ++ r) := by
  subst hv
  have h' : i < (l.map f).length := by simpa using h
  have := SetAt.set (cs := l.map f ++ r) (off := i) (v := f x) (by simp; omega)
  rwa [List.set_append_left _ _ h', ← List.map_set] at this
theorem SetAt.tail {us cs vs cs' : List Value} {j off : Nat} (o' : Nat) (hj : us.length = j) (ho : off = j + o') (h : SetAt cs o' vs cs') : SetAt (us ++ cs) off vs (us ++ cs') := by subst ho; exact SetAt.shift hj h
theorem set_gd {α : Type} [Inhabited α] {l : List α} {i : Nat} : l.set i (gd l i) = l := by
  apply List.ext_getElem?
  intro j
  rw [List.getElem?_set]
  split
  · rename_i h; subst h
    split
    · rename_i h2; simp [gd, h2]
    · rename_i h2; simp; omega
  · rfl
theorem gd_set {α : Type} [Inhabited α] {l : List α} {i j : Nat} {x : α} (h : i < l.length) : gd (l.set i x) j = if i = j then x else gd l j := by
  unfold gd
  simp only [List.getD_eq_getElem?_getD, List.getElem?_set]
  split
  · simp [h]
  · rfl
/-! ## a part of a slice, of an array -/
def BdV (v : Option Value) (dflt x : Nat) : Prop := (v = none ∧ x = dflt) ∨ ∃ k, v = some (.int k (x : Int))
def Bd (K : Env) (o : Option Operand) (dflt x : Nat) : Prop := (o = none ∧ x = dflt) ∨ ∃ y k z, o = some y ∧ ev K y = some (.int k z) ∧ z = (x : Int)
theorem Bd.no {dflt : Nat} : Bd K none dflt dflt := .inl ⟨rfl, rfl⟩
theorem Bd.at {dflt x : Nat} {y : Operand} {k : IntKind} {z : Int} (h : ev K y = some (.int k z)) (e : z = (x : Int)) : Bd K (some y) dflt x := .inr ⟨y, k, z, rfl, h, e⟩
theorem Bd.val {o : Option Operand} {dflt x : Nat} {ρ : Operand → Value} (h : Bd K o dflt x) (s : Ev K ρ) : BdV (o.map ρ) dflt x := by
  rcases h with ⟨rfl, rfl⟩ | ⟨y, k, z, rfl, h, rfl⟩
  · exact .inl ⟨rfl, rfl⟩
  · exact .inr ⟨k, by simp [s h]⟩
theorem run_bounds {isS : Bool} {len cap l h : Nat} {lv hv : Option Value} (w : World) (hh : BdV hv len h) (hl : BdV lv 0 l) (h1 : l ≤ h) (h2 : h ≤ cap) : (Instr.sliceBounds isS len cap lv hv none).run P w = .ok (l, h, cap) w := by
  rcases hh with ⟨rfl, rfl⟩ | ⟨kh, rfl⟩ <;> rcases hl with ⟨rfl, rfl⟩ | ⟨kl, rfl⟩ <;> simp [Instr.sliceBounds, run_sliceBound, h1, h2]
def cutA (a : Option Addr) (cap l sz : Nat) : Option Addr := if cap = l then a else a.map (·.add (l * sz))
theorem L.sliceSl {t e : TypeId} {x : Operand} {lo hi : Option Operand} {a : Option Addr} {len cap l h sz : Nat} (hd : Nat.blt d n = true) (hU : P.underlying t = some (.slice e)) (hz : Sz P e sz) (hx : ev K x = some (.slice a len cap)) (hlo : Bd K lo 0 l) (hhi : Bd K hi len h)
    (h1 : l ≤ h) (h2 : h ≤ cap) (next : TL m P σ n ops Q rest ((d, .slice (cutA a cap l sz) (h - l) (cap - l)) :: K) D M) :
    TL m P σ n ops Q (⟨some d, .slice t x lo hi none, ty, pos, aft, none⟩ :: rest) K D M :=
  L.pureOp hd (fun ρ w s => by
    have e1 := s hx
    have e2 := run_bounds (P := P) (isS := true) w (hhi.val s) (hlo.val s) h1 h2
    have e3 := hz w
    simp only [execOp, e1, Option.map_none]
    simp [Instr.sliceAt, run_underlying hU, Instr.slice, e2, e3, cutA]) next
theorem L.sliceTo {t e : TypeId} {x : Operand} {hi : Option Operand} {a : Option Addr} {len cap h sz : Nat} (hd : Nat.blt d n = true) (hU : P.underlying t = some (.slice e)) (hz : Sz P e sz) (hx : ev K x = some (.slice a len cap)) (hhi : Bd K hi len h)
    (h2 : h ≤ cap) (next : TL m P σ n ops Q rest ((d, .slice a h cap) :: K) D M) :
    TL m P σ n ops Q (⟨some d, .slice t x none hi none, ty, pos, aft, none⟩ :: rest) K D M :=
  L.sliceSl hd hU hz hx Bd.no hhi (Nat.zero_le _) h2 (by
    have e : cutA a cap 0 sz = a := by
      unfold cutA
      split
      · rfl
      · cases a with
        | none => rfl
        | some p => simp [Addr.add]
    rw [e]; exact next)
theorem L.sliceArr {t e : TypeId} {x : Operand} {lo hi : Option Operand} {p : Addr} {len l h sz : Nat} (hd : Nat.blt d n = true) (hU : P.underlying t = some (.array len e)) (hz : Sz P e sz) (hx : ev K x = some (.pointer (some p))) (hlo : Bd K lo 0 l) (hhi : Bd K hi len h)
    (h1 : l ≤ h) (h2 : h ≤ len) (next : TL m P σ n ops Q rest ((d, .slice (cutA (some p) len l sz) (h - l) (len - l)) :: K) D M) :
    TL m P σ n ops Q (⟨some d, .slice t x lo hi none, ty, pos, aft, none⟩ :: rest) K D M :=
  L.pureOp hd (fun ρ w s => by
    have e1 := s hx
    have e2 := run_bounds (P := P) (isS := false) w (hhi.val s) (hlo.val s) h1 h2
    have e3 := hz w
    simp only [execOp, e1, Option.map_none]
    have e4 : cutA (some p) len l sz = some (if len = l then p else p.add (l * sz)) := by unfold cutA; split <;> rfl
    rw [e4]
    simp [Instr.sliceAt, run_underlying hU, Instr.sureAddr, e2, e3]) next
theorem L.copyCl {td ts e tb : TypeId} {x y : Operand} {b o dl dc sl sc b2 o2 k : Nat} {cs vs cs' : List Value} {M' : List Asn} (hd : Nat.blt d n = true) (hU : P.underlying td = some (.slice e)) (hz : Sz P e 1) (hx : ev K x = some (.slice (some ⟨b, o, none⟩) dl dc)) (hy : ev K y = some (.slice (some ⟨b2, o2, none⟩) sl sc))
    (hk : Nat.min sl dl = k) (hc : CellsN σ D M b2 o2 k vs) (h1 : ∀ u ∈ vs, u.oneCell' = true) (hu : Upd (cl b tb cs) (cl b tb cs') M M') (hs : SetAt cs o vs cs')
    (next : TL none P σ n ops Q rest ((d, .int .i64 k) :: K) D M') : TL none P σ n ops Q (⟨some d, .call { callee := .builtin .copy, args := #[x, y], argTypes := #[td, ts] }, ty, pos, aft, none⟩ :: rest) K D M :=
  L.val hd (fun aa w s ss => by
    obtain ⟨O, e1, e2⟩ := hu
    have hb := (ss.ent e1).block (.head _)
    obtain ⟨hl, hc⟩ := hc
    obtain ⟨c, t', mk, hb2, hv⟩ := hc w ss
    have e3 := hz w
    have hld : (loadCells ⟨b2, o2, none⟩ k).run P w = .ok vs.toArray w := by
      rw [← hl]; exact run_loadCells_list (P := P) w _ vs (fun j v e => by rw [add_lit, cell_of hb2]; exact hv j v e)
    have h2 := run_storeCells_at P b o tb vs 0 cs.toArray w hb (by simpa using hs.1) h1
    simp only [Nat.add_zero] at h2
    refine ⟨_, ?_, ss.setB (o' := .cells cs'.toArray tb (0, 0)) ⟨O, e1, e2⟩⟩
    have ex : aa.eval x = _ := s.eval hx
    have ey : aa.eval y = _ := s.eval hy
    have h3 : Sem.run P (storeCells ⟨b, o, none⟩ vs) w = .ok () (setB w b (.cells cs'.toArray tb (0, 0))) := by
      rw [show (storeCells ⟨b, o, none⟩ vs) = storeCells ⟨b, o, none⟩ vs 0 from rfl, h2, setRow_setB hb, hs.2]
    simp [execOp, resolve, invoke, builtin, ex, ey, Builtin.copy_, run_underlying hU, Builtin.lenOf, hk, Builtin.firstCells, e3, hld, h3, goInt]) next
/-! ## facts about parts -/
theorem rowsAt_cut {sz off l h : Nat} {rows : List (List Value)} {c : Array Value} (H : RowsAt sz rows c off) : RowsAt sz ((rows.drop l).take (h - l)) c (off + l * sz) := fun i j r v h1 h2 => by
  have hi := (List.getElem?_eq_some_iff.1 h1).1
  simp at hi
  rw [List.getElem?_take_of_lt (by omega), List.getElem?_drop] at h1
  have := H (l + i) j r v h1 h2
  rw [show off + l * sz + i * sz + j = off + (l + i) * sz + j from by rw [Nat.add_mul]; omega]
  exact this
theorem rsl_cut {sz len cap l h : Nat} {a : Option Addr} {rows : List (List Value)} {z : Hp} (h1 : l ≤ h) (h2 : h ≤ len) (H : rsl sz a len cap rows z) : rsl sz (cutA a cap l sz) (h - l) (cap - l) ((rows.drop l).take (h - l)) z := by
  obtain ⟨q1, q2, q3, q4⟩ := H
  refine ⟨by simp; omega, by omega, fun r hr => q3 r (List.mem_of_mem_drop (List.mem_of_mem_take hr)), ?_⟩
  rcases q4 with rfl | ⟨b, off, c, t, m, rfl, e2, e3⟩
  · left; simp
  · by_cases hc : cap = l
    · left; apply List.length_eq_zero_iff.1; simp; omega
    · right
      refine ⟨b, off + l * sz, c, t, m, ?_, e2, rowsAt_cut e3⟩
      simp [cutA, hc, add_lit]
theorem rsl_to {sz len cap h : Nat} {a : Option Addr} {rows : List (List Value)} {z : Hp} (h2 : h ≤ len) (H : rsl sz a len cap rows z) : rsl sz a h cap (rows.take h) z := by
  obtain ⟨q1, q2, q3, q4⟩ := H
  refine ⟨by simp; omega, by omega, fun r hr => q3 r (List.mem_of_mem_take hr), ?_⟩
  rcases q4 with rfl | ⟨b, off, c, t, m, rfl, e2, e3⟩
  · left; simp
  · right
    refine ⟨b, off, c, t, m, rfl, e2, fun i j r v g1 g2 => ?_⟩
    have hi := (List.getElem?_eq_some_iff.1 g1).1
    simp at hi
    rw [List.getElem?_take_of_lt (by omega)] at g1
    exact e3 i j r v g1 g2
theorem own_cut {sz len cap l h : Nat} {e : TypeId} {a : Option Addr} {rows : List (List Value)} {z : Hp} (h1 : l ≤ h) (h2 : h ≤ len) (H : own sz e a len cap rows z) : own sz e (cutA a cap l sz) (h - l) (cap - l) ((rows.drop l).take (h - l)) z := by
  obtain ⟨q1, q2, q3, q4⟩ := H
  refine ⟨by simp; omega, by omega, fun r hr => q3 r (List.mem_of_mem_drop (List.mem_of_mem_take hr)), ?_⟩
  rcases q4 with ⟨rfl, rfl⟩ | ⟨b, off, cs, rfl, e2, e4, e3⟩
  · left; simp [cutA]
  · right
    by_cases hc : cap = l
    · refine ⟨b, off, cs, by simp [cutA, hc], e2, ?_, ?_⟩
      · rw [show cap - l = 0 by omega]; omega
      · rw [show h - l = 0 by omega]; intro i j r v g; simp at g
    · refine ⟨b, off + l * sz, cs, by simp [cutA, hc, add_lit], e2, ?_, rowsAt_cut e3⟩
      rw [Nat.add_assoc, ← Nat.add_mul, show l + (cap - l) = cap by omega]; exact e4
theorem own_to {sz len cap h : Nat} {e : TypeId} {a : Option Addr} {rows : List (List Value)} {z : Hp} (h2 : h ≤ len) (H : own sz e a len cap rows z) : own sz e a h cap (rows.take h) z := by
  obtain ⟨q1, q2, q3, q4⟩ := H
  refine ⟨by simp; omega, by omega, fun r hr => q3 r (List.mem_of_mem_take hr), ?_⟩
  rcases q4 with q | ⟨b, off, cs, rfl, e2, e4, e3⟩
  · exact .inl q
  · right
    refine ⟨b, off, cs, rfl, e2, e4, fun i j r v g1 g2 => ?_⟩
    have hi := (List.getElem?_eq_some_iff.1 g1).1
    simp at hi
    rw [List.getElem?_take_of_lt (by omega)] at g1
    exact e3 i j r v g1 g2
theorem L.sliceR {t e : TypeId} {x : Operand} {lo hi : Option Operand} {a : Option Addr} {len cap l h sz : Nat} {rows : List (List Value)} (hd : Nat.blt d n = true) (hU : P.underlying t = some (.slice e)) (hz : Sz P e sz) (hx : ev K x = some (.slice a len cap)) (hlo : Bd K lo 0 l) (hhi : Bd K hi len h)
    (hm : rsl sz a len cap rows ∈ D) (h1 : l ≤ h) (h2 : h ≤ len) (h3 : len ≤ cap) (next : ∀ a', TL m P σ n ops Q rest ((d, .slice a' (h - l) (cap - l)) :: K) (rsl sz a' (h - l) (cap - l) ((rows.drop l).take (h - l)) :: D) M) :
    TL m P σ n ops Q (⟨some d, .slice t x lo hi none, ty, pos, aft, none⟩ :: rest) K D M :=
  L.sliceSl hd hU hz hx hlo hhi h1 (by omega) (L.derive hm (fun z H => rsl_cut h1 h2 H) (next _))
theorem L.sliceO {t e e' : TypeId} {x : Operand} {lo hi : Option Operand} {a : Option Addr} {len cap l h sz : Nat} {rows : List (List Value)} {N : List Asn} (hd : Nat.blt d n = true) (hU : P.underlying t = some (.slice e)) (hz : Sz P e sz) (hx : ev K x = some (.slice a len cap)) (hlo : Bd K lo 0 l) (hhi : Bd K hi len h)
    (hM : Pull (own sz e' a len cap rows) M N) (h1 : l ≤ h) (h2 : h ≤ len) (h3 : len ≤ cap) (next : ∀ a', TL none P σ n ops Q rest ((d, .slice a' (h - l) (cap - l)) :: K) D (own sz e' a' (h - l) (cap - l) ((rows.drop l).take (h - l)) :: N)) :
    TL none P σ n ops Q (⟨some d, .slice t x lo hi none, ty, pos, aft, none⟩ :: rest) K D M :=
  L.sliceSl hd hU hz hx hlo hhi h1 (by omega) (fun aa w s t => next _ aa w s ((t.ent hM).ent (Ent.imp fun z H => own_cut h1 h2 H)))
theorem T.ownLen {G : Act → World → Prop} {a : Option Addr} {len cap sz : Nat} {e : TypeId} {rows : List (List Value)} (hm : own sz e a len cap rows ∈ M) (next : rows.length = len → len ≤ cap → T σ n G K D M) : T σ n G K D M :=
  T.pure (p := rows.length = len ∧ len ≤ cap) hm (fun _ h => ⟨h.1, h.2.1⟩) (fun h => next h.1 h.2)
theorem T.rslLen2 {G : Act → World → Prop} {a : Option Addr} {len cap sz : Nat} {rows : List (List Value)} (hm : rsl sz a len cap rows ∈ D) (next : rows.length = len → len ≤ cap → T σ n G K D M) : T σ n G K D M :=
  T.fact (p := rows.length = len ∧ len ≤ cap) hm (fun _ h => ⟨h.1, h.2.1⟩) (fun h => next h.1 h.2)
theorem T.rslAddr {G : Act → World → Prop} {a : Option Addr} {len cap sz : Nat} {rows : List (List Value)} (hm : rsl sz a len cap rows ∈ D) (hne : rows ≠ []) (next : ∀ b o, a = some ⟨b, o, none⟩ → T σ n G K D M) : T σ n G K D M :=
  T.fact (p := ∃ b o, a = some ⟨b, o, none⟩) hm (fun _ h => by
    obtain ⟨_, _, _, e | ⟨b, o, c, t, m, e, _⟩⟩ := h
    · exact absurd e hne
    · exact ⟨b, o, e⟩) (fun ⟨b, o, h⟩ => next b o h)
theorem T.ownAddr {G : Act → World → Prop} {a : Option Addr} {len cap sz : Nat} {e : TypeId} {rows : List (List Value)} (hm : own sz e a len cap rows ∈ M) (hne : rows ≠ []) (next : ∀ b o, a = some ⟨b, o, none⟩ → T σ n G K D M) : T σ n G K D M :=
  T.pure (p := ∃ b o, a = some ⟨b, o, none⟩) hm (fun _ h => by
    obtain ⟨q1, q2, _, ⟨_, e⟩ | ⟨b, o, cs, e, _⟩⟩ := h
    · exact absurd (List.length_eq_zero_iff.1 (by omega)) hne
    · exact ⟨b, o, e⟩) (fun ⟨b, o, h⟩ => next b o h)
theorem L.idxR {t e : TypeId} {x y : Operand} {b o len cap i sz : Nat} {k : IntKind} {iv : Int} {rows : List (List Value)} {r : List Value} (hd : Nat.blt d n = true) (hU : P.underlying t = some (.slice e)) (hz : Sz P e sz) (hx : ev K x = some (.slice (some ⟨b, o, none⟩) len cap)) (hy : ev K y = some (.int k iv))
    (hm : rsl sz (some ⟨b, o, none⟩) len cap rows ∈ D) (hi : iv = (i : Int)) (hl : i < len) (hr : rows[i]? = some r) (next : TL m P σ n ops Q rest ((d, .pointer (some ⟨b, o + i * sz, none⟩)) :: K) (rcs b (o + i * sz) r :: D) M) :
    TL m P σ n ops Q (⟨some d, .indexAddr t x y, ty, pos, aft, none⟩ :: rest) K D M :=
  L.idxG hd hU hz hx hy hi hl (L.derive hm (fun z hz' => by
    obtain ⟨b', o', e1, e2⟩ := rsl_cells hz' hr
    injection e1 with e1; injection e1 with e3 e4
    subst e3; subst e4; exact e2) next)
/-! ## unsigned 64 -/
theorem wrap_u64 {z : Int} (h1 : 0 ≤ z) (h2 : z ≤ 18446744073709551615) : IntKind.u64.wrap z = z := by
  have e : IntKind.u64.wrap z = z % 2 ^ 64 := by simp [IntKind.wrap, IntKind.signed, IntKind.bits]
  rw [e]; exact Int.emod_eq_of_lt h1 (by omega)
theorem L.addU {x y : Operand} {t t' : TypeId} {a b : Int} (hd : Nat.blt d n = true) (hx : ev K x = some (.int .u64 a)) (hy : ev K y = some (.int .u64 b)) (hw : 0 ≤ a + b ∧ a + b ≤ 18446744073709551615) (next : TL m P σ n ops Q rest ((d, .int .u64 (a + b)) :: K) D M) :
    TL m P σ n ops Q (⟨some d, .binOp .add t x y t', ty, pos, aft, none⟩ :: rest) K D M :=
  L.addI hd hx hy (by rw [wrap_u64 hw.1 hw.2]; exact next)
theorem L.subU {x y : Operand} {t t' : TypeId} {a b : Int} (hd : Nat.blt d n = true) (hx : ev K x = some (.int .u64 a)) (hy : ev K y = some (.int .u64 b)) (hw : 0 ≤ a - b ∧ a - b ≤ 18446744073709551615) (next : TL m P σ n ops Q rest ((d, .int .u64 (a - b)) :: K) D M) :
    TL m P σ n ops Q (⟨some d, .binOp .sub t x y t', ty, pos, aft, none⟩ :: rest) K D M :=
  L.subI hd hx hy (by rw [wrap_u64 hw.1 hw.2]; exact next)
theorem L.mulU {x y : Operand} {t t' : TypeId} {a b : Int} (hd : Nat.blt d n = true) (hx : ev K x = some (.int .u64 a)) (hy : ev K y = some (.int .u64 b)) (hw : 0 ≤ a * b ∧ a * b ≤ 18446744073709551615) (next : TL m P σ n ops Q rest ((d, .int .u64 (a * b)) :: K) D M) :
    TL m P σ n ops Q (⟨some d, .binOp .mul t x y t', ty, pos, aft, none⟩ :: rest) K D M :=
  L.mulI hd hx hy (by rw [wrap_u64 hw.1 hw.2]; exact next)
theorem L.convU {x : Operand} {src dst : TypeId} {k' : IntKind} {z : Int} {s : TypeDesc} (hd : Nat.blt d n = true) (hS : P.underlying src = some s) (hU : P.underlying dst = some (.int .u64)) (hx : ev K x = some (.int k' z)) (hw : 0 ≤ z ∧ z ≤ 18446744073709551615) (next : TL m P σ n ops Q rest ((d, .int .u64 z) :: K) D M) :
    TL m P σ n ops Q (⟨some d, .convert src dst x, ty, pos, aft, none⟩ :: rest) K D M :=
  L.convI hd hS hU hx (by rw [wrap_u64 hw.1 hw.2]; exact next)
theorem L.convN {x : Operand} {src dst : TypeId} {k' : IntKind} {z : Int} {s : TypeDesc} (hd : Nat.blt d n = true) (hS : P.underlying src = some s) (hU : P.underlying dst = some (.int .i64)) (hx : ev K x = some (.int k' z)) (hw : -9223372036854775808 ≤ z ∧ z ≤ 9223372036854775807) (next : TL m P σ n ops Q rest ((d, .int .i64 z) :: K) D M) :
    TL m P σ n ops Q (⟨some d, .convert src dst x, ty, pos, aft, none⟩ :: rest) K D M :=
  L.convI hd hS hU hx (by rw [wrap_i64 hw.1 hw.2]; exact next)
end
theorem bua_of {P : Program} {t e : TypeId} {len k : Nat} {z : Value} {zs : List Value} (hU : P.underlying t = some (.array len e)) (hz : ∀ w, (zeroValue t).run P w = .ok z w) (hzs : z.cells = zs.toArray) (hs : Sz P e k) : Bu P t zs (fun (i : Nat) => some (i * k, k)) := fun parts w cs h => by
  have hs' := hs w
  simp [Instr.build, hz, run_underlying hU, hzs, hs', h]
theorem run_eqArr {P : Program} {t e : TypeId} {len : Nat} {k : IntKind} {xs ys : List Int} (hU : P.underlying t = some (.array len e)) (hE : P.underlying e = some (.int k)) (hz : Sc P e) (hx : xs.length = len) (hy : ys.length = len) (w : World) :
    (Op.equal t (.agg (xs.map (Value.int k)).toArray) (.agg (ys.map (Value.int k)).toArray)).run P w = .ok (decide (xs = ys)) w := by
  have h2 := (hz w).2
  have h1 := (hz w).1
  rw [show Op.equal t = Op.equalIn (9999 + 1) t from rfl, Op.equalIn]
  simp only [Sem.run_bind, run_underlying hU, Result.andThen, h2]
  simp only [Std.Legacy.Range.forIn_eq_forIn_range', Std.Legacy.Range.size]
  have key : ∀ (m o : Nat), o + m = len → (Sem.run P (forIn (List.range' o m 1) ((none, ()) : Option Bool × Unit) fun i (_ : Option Bool × Unit) => do
          let a ← Go.part e (List.map (Value.int k) xs).toArray (i * 1)
          let b ← Go.part e (List.map (Value.int k) ys).toArray (i * 1)
          let c ← Op.equalIn 9999 e a b
          if (!c) = true then pure (ForInStep.done (some false, ())) else pure (ForInStep.yield (none, ()))) w) = .ok (if xs.drop o = ys.drop o then none else some false, ()) w := by
    intro m
    induction m with
    | zero => intro o h; rw [List.drop_eq_nil_of_le (by omega), List.drop_eq_nil_of_le (by omega)]; simp
    | succ m ih =>
      intro o h
      have ox : o < xs.length := by omega
      have oy : o < ys.length := by omega
      have e1 := List.drop_eq_getElem_cons ox
      have e2 := List.drop_eq_getElem_cons oy
      rw [List.range'_succ, List.forIn_cons]
      simp only [Sem.run_bind, Nat.mul_one]
      have p1 : ∀ (l : List Int) (hl : o < l.length), (Go.part e (List.map (Value.int k) l).toArray o).run P w = .ok (.int k l[o]) w := fun l hl => by
        simp [Go.part, h1, hl]
      rw [p1 xs ox, Result.andThen_ok, p1 ys oy, Result.andThen_ok, run_equalIn_int w 9998 e k k _ _ hE, Result.andThen_ok]
      by_cases hq : xs[o] = ys[o]
      · have := ih (o + 1) (by omega)
        simp only [Nat.mul_one] at this
        simp only [hq, beq_self_eq_true, Bool.not_true, Bool.false_eq_true, if_false, Sem.run_pure, Result.andThen_ok, this, e1, e2, List.cons.injEq, true_and]
      · have hne : ¬ (xs.drop o = ys.drop o) := by rw [e1, e2]; simp only [List.cons.injEq, not_and]; exact fun h => absurd h hq
        have hb : (xs[o] == ys[o]) = false := by simpa using hq
        simp only [hb, hne, Bool.not_false, if_true, if_false, Sem.run_pure, Result.andThen_ok]
  have := key len 0 (by omega)
  simp only [Nat.mul_one, List.drop_zero] at this
  simp only [Nat.mul_one, Nat.sub_zero, Nat.add_sub_cancel, Nat.div_one, this]
  by_cases h : xs = ys <;> simp [h]
section
variable {P : Program} {σ : World} {n : Nat} {Q : Post} {K : Env} {D M : List Asn} {m : Option (List Asn × List Asn)} {ops : Array Oper} {rest : List Oper} {d : Nat} {ty : TypeId} {pos : String} {aft : Array Edge}
theorem Y_int (l : List UInt8) : l.map Y = (l.map (fun b => (b.toNat : Int))).map (Value.int .u8) := by simp [Y]
theorem toNat_inj {l l' : List UInt8} : (l.map (fun b => (b.toNat : Int)) = l'.map (fun b => (b.toNat : Int))) ↔ l = l' := by
  constructor
  · intro h
    have : Function.Injective (fun b : UInt8 => (b.toNat : Int)) := fun a b h => by
      have h' : a.toNat = b.toNat := Int.ofNat.inj h
      exact UInt8.toNat_inj.1 h'
    exact List.map_inj_right (fun a b h => this h) |>.1 h
  · rintro rfl; rfl
theorem L.eqlArrI {t t' e : TypeId} {len : Nat} {x y : Operand} {l l' : List UInt8} (hG : P.eqGuardType P.depth t = false) (hd : Nat.blt d n = true) (hU : P.underlying t = some (.array len e)) (hE : P.underlying e = some (.int .u8)) (hz : Sc P e) (hx : ev K x = some (.agg (l.map Y).toArray)) (hy : ev K y = some (.agg (l'.map Y).toArray))
    (h1 : l.length = len) (h2 : l'.length = len) (next : TL m P σ n ops Q rest ((d, .bool (decide (l = l'))) :: K) D M) :
    TL m P σ n ops Q (⟨some d, .binOp .eql t x y t', ty, pos, aft, none⟩ :: rest) K D M :=
  L.pureOp hd (fun ρ w s => by
    have e1 := s hx
    have e2 := s hy
    rw [Y_int] at e1 e2
    have := run_eqArr hU hE hz (xs := l.map (fun b => (b.toNat : Int))) (ys := l'.map (fun b => (b.toNat : Int))) (by simpa using h1) (by simpa using h2) w
    simp only [execOp, e1, e2]
    simp only [Sem.run_bind, run_eqGuard_agg w .eql t x y _ _ hG, Result.andThen_ok, Go.binOp, this, toNat_inj]
    simp) next
theorem L.neqArrI {t t' e : TypeId} {len : Nat} {x y : Operand} {l l' : List UInt8} (hG : P.eqGuardType P.depth t = false) (hd : Nat.blt d n = true) (hU : P.underlying t = some (.array len e)) (hE : P.underlying e = some (.int .u8)) (hz : Sc P e) (hx : ev K x = some (.agg (l.map Y).toArray)) (hy : ev K y = some (.agg (l'.map Y).toArray))
    (h1 : l.length = len) (h2 : l'.length = len) (next : TL m P σ n ops Q rest ((d, .bool (decide (l ≠ l'))) :: K) D M) :
    TL m P σ n ops Q (⟨some d, .binOp .neq t x y t', ty, pos, aft, none⟩ :: rest) K D M :=
  L.pureOp hd (fun ρ w s => by
    have e1 := s hx
    have e2 := s hy
    rw [Y_int] at e1 e2
    have := run_eqArr hU hE hz (xs := l.map (fun b => (b.toNat : Int))) (ys := l'.map (fun b => (b.toNat : Int))) (by simpa using h1) (by simpa using h2) w
    simp only [execOp, e1, e2]
    simp only [Sem.run_bind, run_eqGuard_agg w .neq t x y _ _ hG, Result.andThen_ok, Go.binOp, this, toNat_inj]
    simp) next
theorem L.callB1 {f : FuncId} {xs : List Operand} {ats : Array TypeId} {args : List Value} {M0 F N : List Asn} {A φ : Asn} {R : Value → List Asn → List Asn → Prop} (hd : Nat.blt d n = true) (hx : evs K xs args) (hM : Sel M0 M N) (hB : Pull A N F) (hi : ∀ z, A z → φ z)
    (hS : Spec P f args [φ] M0 R) (next : ∀ v D' M', R v D' M' → TL none P σ n ops Q rest ((d, v) :: K) ([] ++ D) ((A :: M') ++ F)) :
    TL none P σ n ops Q (⟨some d, .call { callee := .value (.func f), args := xs.toArray, argTypes := ats }, ty, pos, aft, none⟩ :: rest) K D M :=
  L.callB hd hx hM (B := [A]) hB (.own (.head _) hi .nil) hS next
end
end Cv
namespace Cv
open Go
theorem T.eqv {σ : World} {n : Nat} {G : Act → World → Prop} {K : Env} {D M N : List Asn} {A B : Asn} (hM : Pull A M N) (e : A = B) (h : T σ n G K D (B :: N)) : T σ n G K D M := by
  subst e; exact T.drop hM h
theorem L.eqv {P : Program} {σ : World} {n : Nat} {Q : Post} {K : Env} {D M N : List Asn} {ops : Array Oper} {l : List Oper} {A B : Asn} (hM : Pull A M N) (e : A = B) (h : TL none P σ n ops Q l K D (B :: N)) : TL none P σ n ops Q l K D M := T.eqv hM e h
theorem len8 {α : Type} {l : List α} (h : l.length = 8) : ∃ a b c d e f g i, l = [a, b, c, d, e, f, g, i] := by
  match l, h with
  | [a, b, c, d, e, f, g, i], _ => exact ⟨a, b, c, d, e, f, g, i, rfl⟩
end Cv
namespace Cv
theorem map_get {α β} {f : α → β} {l : List α} {k : Nat} {x : α} (h : l[k]? = some x) : (l.map f)[k]? = some (f x) := by simp [h]
end Cv

namespace Cv
open Go
theorem One.mapW {l : List (BitVec 32)} : ∀ u ∈ l.map W, u.oneCell' = true := by intro u hu; obtain ⟨x, _, rfl⟩ := List.mem_map.1 hu; rfl
theorem One.mapY {l : List UInt8} : ∀ u ∈ l.map Y, u.oneCell' = true := by intro u hu; obtain ⟨x, _, rfl⟩ := List.mem_map.1 hu; rfl
theorem One.app {l l' : List Value} (h : ∀ u ∈ l, u.oneCell' = true) (k : ∀ u ∈ l', u.oneCell' = true) : ∀ u ∈ l ++ l', u.oneCell' = true := fun u hu => (List.mem_append.1 hu).elim (h u) (k u)
end Cv
namespace Cv
open Go
section
variable {P : Program} {σ : World} {n : Nat} {Q : Post} {K : Env} {D M : List Asn} {m : Option (List Asn × List Asn)} {ops : Array Oper} {rest : List Oper} {d : Nat} {ty : TypeId} {pos : String} {aft : Array Edge}
theorem src_rsl {w : World} {a : Option Addr} {len cap sz : Nat} {t e : TypeId} {rows : List (List Value)} {y : Hp} (hk : P.underlying t = some (.slice e)) (h1 : ∀ u ∈ rows.flatten, u.oneCell' = true) (ly : Hp.le y (hp w)) (H : rsl sz a len cap rows y) : Go.Src P sz t (.slice a len cap) len rows.flatten w := by
  obtain ⟨q1, q2, q3, q4⟩ := H
  rcases q4 with rfl | ⟨b, off, c, t', mk, rfl, e2, e3⟩
  · simp at q1; subst q1
    cases a with
    | none => exact Go.Src.ofNil w hk cap
    | some p => exact Go.Src.ofSlice w hk p 0 cap [] (by simp) (by simp) (by simp)
  · exact Go.Src.ofSlice w hk ⟨b, off, none⟩ len cap _ (by rw [rows_flat_len q3, q1]) (fun j u hu => by rw [add_lit, cell_of (ly _ _ e2)]; exact rowsAt_flat q3 e3 j u hu) h1
theorem L.appendR {t t2 e e2 : TypeId} {x y : Operand} {a a2 : Option Addr} {len cap m c2 sz bytes : Nat} {rows news : List (List Value)} {N : List Asn} (hd : Nat.blt d n = true) (hU : P.underlying t = some (.slice e)) (hV : P.underlying t2 = some (.slice e2)) (hE : El P e sz bytes)
    (hx : ev K x = some (.slice a len cap)) (hy : ev K y = some (.slice a2 m c2)) (hM : Pull (own sz e a len cap rows) M N) (hs : ∀ w, Sat σ D M w → ∃ y, Hp.le y (hp w) ∧ rsl sz a2 m c2 news y) (h1 : ∀ u ∈ news.flatten, u.oneCell' = true)
    (hb : (len + m) * bytes ≤ 140737488355328) (hb' : len + m ≤ 4611686018427387904)
    (next : ∀ a' cap', TL none P σ n ops Q rest ((d, .slice a' (len + m) cap') :: K) D (own sz e a' (len + m) cap' (rows ++ news) :: N)) :
    TL none P σ n ops Q (⟨some d, .call { callee := .builtin .append, args := #[x, y], argTypes := #[t, t2] }, ty, pos, aft, none⟩ :: rest) K D M :=
  L.valEx hd (fun v D' M' => ∃ a' cap', v = .slice a' (len + m) cap' ∧ D' = D ∧ M' = own sz e a' (len + m) cap' (rows ++ news) :: N) (fun aa w s ss => by
    obtain ⟨y0, ly, H⟩ := hs w ss
    obtain ⟨a', cap', w', hrun, hS⟩ := append_src (ty := ty) hU hE hM (src_rsl hV h1 ly H) H.1 H.2.2.1 hb hb' ss
    refine ⟨_, _, _, w', ?_, ⟨a', cap', rfl, rfl, rfl⟩, hS⟩
    have ex : aa.eval x = _ := s.eval hx
    have ey : aa.eval y = _ := s.eval hy
    simp [execOp, resolve, invoke, builtin, ex, ey, hrun]) (fun v D' M' ⟨a', cap', e1, e2, e3⟩ => by subst e1; subst e2; subst e3; exact next a' cap')
theorem rd_D {φ : Asn} (h : φ ∈ D) : ∀ w, Sat σ D M w → ∃ y, Hp.le y (hp w) ∧ φ y := fun w s => s.fact h
theorem rd_M {sz len cap : Nat} {e : TypeId} {a : Option Addr} {rows : List (List Value)} (h : own sz e a len cap rows ∈ M) : ∀ w, Sat σ D M w → ∃ y, Hp.le y (hp w) ∧ rsl sz a len cap rows y := fun w s => by
  obtain ⟨y, l, H⟩ := s.own h
  exact ⟨y, l, rsl_of_own H⟩
theorem One.yr {l : List UInt8} : ∀ u ∈ (l.map yr).flatten, u.oneCell' = true := by
  intro u hu
  obtain ⟨r, hr, hu⟩ := List.mem_flatten.1 hu
  obtain ⟨b, _, rfl⟩ := List.mem_map.1 hr
  simp at hu; subst hu; rfl
end
end Cv
namespace Cv
open Go
section
variable {P : Program} {σ : World} {n : Nat} {Q : Post} {K : Env} {D M : List Asn} {ops : Array Oper}
theorem L.ownRsl {l : List Oper} {a : Option Addr} {len cap sz : Nat} {e : TypeId} {rows : List (List Value)} {N : List Asn} (hM : Pull (own sz e a len cap rows) M N) (next : TL none P σ n ops Q l K (rsl sz a len cap rows :: D) N) : TL none P σ n ops Q l K D M := T.ownRsl hM next
end
end Cv
namespace Cv
open Go
section
variable {σ : World} {n : Nat} {G : Act → World → Prop} {K : Env} {D M N : List Asn}
theorem T.ownEq {sz len cap : Nat} {e : TypeId} {rows : List (List Value)} (a : Option Addr) (rows' : List (List Value)) (hM : Pull (own sz e a len cap rows) M N) (h : rows = rows') (next : T σ n G K D (own sz e a len cap rows' :: N)) : T σ n G K D M := by
  subst h; exact T.drop hM next
theorem T.clEq {t : TypeId} {cs : List Value} (b : Nat) (cs' : List Value) (hM : Pull (cl b t cs) M N) (h : cs = cs') (next : T σ n G K D (cl b t cs' :: N)) : T σ n G K D M := by
  subst h; exact T.drop hM next
theorem L.ownEq {P : Program} {Q : Post} {ops : Array Oper} {l : List Oper} {sz len cap : Nat} {e : TypeId} {rows : List (List Value)} (a : Option Addr) (rows' : List (List Value)) (hM : Pull (own sz e a len cap rows) M N) (h : rows = rows') (next : TL none P σ n ops Q l K D (own sz e a len cap rows' :: N)) : TL none P σ n ops Q l K D M := T.ownEq a rows' hM h next
theorem L.clEq {P : Program} {Q : Post} {ops : Array Oper} {l : List Oper} {t : TypeId} {cs : List Value} (b : Nat) (cs' : List Value) (hM : Pull (cl b t cs) M N) (h : cs = cs') (next : TL none P σ n ops Q l K D (cl b t cs' :: N)) : TL none P σ n ops Q l K D M := T.clEq b cs' hM h next
end
end Cv
namespace Cv
theorem map_snoc {α β : Type} {f : α → β} {l : List α} {x : α} : (l ++ [x]).map f = l.map f ++ [f x] := by simp
end Cv
namespace Cv
open Go
section
variable {P : Program} {σ : World} {n : Nat} {G : Act → World → Prop} {Q : Post} {K : Env} {D M : List Asn}
def Join (σ : World) (n : Nat) (I : Env → List Asn → List Asn → Prop) (Kk : Env) (D F : List Asn) : Act → World → Prop := fun a w =>
  ∃ K' D' M', I K' D' M' ∧ Slots σ n (K' ++ Kk) a ∧ Sat σ (D' ++ D) (M' ++ F) w
theorem T.cutC {c : Code} (I : Env → List Asn → List Asn → Prop) {Kk : Env} {M0 F : List Asn} (hk : SubK Kk K) (hM : Sel M0 M F)
    (body : T σ n (wq P c (Exit.then (Join σ n I Kk D F) Q)) K D M)
    (rest : ∀ K' D' M', I K' D' M' → T σ n (Q .normal) (K' ++ Kk) (D' ++ D) (M' ++ F)) : T σ n (wq P c Q) K D M := fun a w s t =>
  wq_mono (fun e a w h => by
    cases e with
    | normal => obtain ⟨K', D', M', hI, hs, ht⟩ := h; exact rest K' D' M' hI a w hs ht
    | exit id => exact h
    | goto l => exact h
    | ret => exact h
    | panic c => exact h
    | outgrown => exact h) (body a w s t)
theorem T.toJoin {I : Env → List Asn → List Asn → Prop} {Kk : Env} {D0 F : List Asn} {K' : Env} {D' M' : List Asn} (hI : I K' D' M')
    (hK : SubK K' K) (hk : SubK Kk K) (hD : SubD D' D) (hd : SubD D0 D) (hM : Ent M (M' ++ F)) : T σ n (Join σ n I Kk D0 F) K D M := fun _ _ s t =>
  ⟨K', D', M', hI, s.sub (hK.append hk), (t.facts (SubD.append hD hd)).ent hM⟩
end
end Cv
namespace Cv
open Go
section
variable {κ ν : Type} [DecidableEq κ]
def each {α : Type} (f : α → Asn) (l : List α) : Asn := all (l.map f)
variable {σ : World} {n : Nat} {G : Act → World → Prop} {K : Env} {D M N : List Asn}
theorem T.unfold {A : Asn} (L : List Asn) (hM : Pull A M N) (e : A = all L) {X : List Asn} (hX : AppL L N X) (next : T σ n G K D X) : T σ n G K D M := by
  subst e; subst hX; exact T.drop (Ent.trans hM Ent.unfold) next
theorem T.foldAs (A : Asn) {L : List Asn} (hM : Sel L M N) (e : A = all L) (next : T σ n G K D (A :: N)) : T σ n G K D M := by
  subst e; exact T.drop (Ent.trans hM Ent.fold) next
end
end Cv
namespace Cv
open Go
theorem yr_flat : ∀ (l : List UInt8), (l.map yr).flatten = l.map Y
  | [] => rfl
  | b :: l => by simp only [List.map_cons, List.flatten_cons, yr_flat l]; rfl
theorem Spec.imp {P : Program} {f : FuncId} {args : List Value} {D0 M0 : List Asn} {R R' : Value → List Asn → List Asn → Prop} (h : Spec P f args D0 M0 R) (i : ∀ v D M, R v D M → R' v D M) : Spec P f args D0 M0 R' where
  fn := h.fn
  run σ D M w t := (h.run σ D M w t).mono (fun e w' ⟨v, D', M', he, hR, hs⟩ => ⟨v, D', M', he, i _ _ _ hR, hs⟩)
section
variable {P : Program} {σ : World} {n : Nat} {Q : Post} {K : Env} {D M : List Asn} {m : Option (List Asn × List Asn)} {ops : Array Oper} {rest : List Oper} {d : Nat} {ty : TypeId} {pos : String} {aft : Array Edge}
theorem T.retAT {fn : Func} {t u k : Nat} {tt : TypeId} {b off : Nat} {R : Value → List Asn → List Asn → Prop} {D0 M0 D' M' : List Asn} {vs : List Value} {v : Value} (hr : fn.results = #[.cell t tt, .tmp u]) (hS : Ag P tt k) (hx : get K t = some (.pointer (some ⟨b, off, none⟩))) (hc : CellsN (dset σ []) D M b off k vs) (hv : get K u = some v)
    (hR : R (.tuple #[.agg vs.toArray, v]) D' M') (hD : SubD (D' ++ D0) D) (hM : Ent M (M' ++ M0)) : T (dset σ []) n (bPost P fn (RetPost (dset σ []) R D0 M0) .ret) K D M :=
  T.ret0 (.inl rfl) (fun a w s ss => by
    obtain ⟨hl, hc⟩ := hc
    obtain ⟨c, t', m, hb, hv'⟩ := hc w ss
    have h1 : (loadCells ⟨b, off, none⟩ vs.length).run P w = .ok vs.toArray w := run_loadCells_list (P := P) w _ vs (fun j v e => by rw [add_lit, cell_of hb]; exact hv' j v e)
    have h2 := (hS w).1
    have h4 := (hS w).2
    have h3 := s.val t _ hx
    have h5 := s.val u _ hv
    rw [Array.getD_eq_getD_getElem?] at h3 h5
    subst hl
    simp [results, hr, h3, h5, asAddr, loadVar, h2, h4, h1, Sem.run]) hR hD hM
theorem Cells.ofOwn1 {α : Type} {g : α → List Value} {xs : List α} {x : α} {v : Value} {b o len cap i : Nat} {e : TypeId} (hm : own 1 e (some ⟨b, o, none⟩) len cap (xs.map g) ∈ M) (hx : xs[i]? = some x) (hv : g x = [v]) : Cells σ D M b (o + i * 1) [v] :=
  Cells.ofOwn hm (by rw [List.getElem?_map, hx]; simp [hv])
theorem Cells.ofRsl1 {α : Type} {g : α → List Value} {xs : List α} {x : α} {v : Value} {b o len cap i : Nat} (hm : rsl 1 (some ⟨b, o, none⟩) len cap (xs.map g) ∈ D) (hx : xs[i]? = some x) (hv : g x = [v]) : Cells σ D M b (o + i * 1) [v] :=
  Cells.ofRsl hm (by rw [List.getElem?_map, hx]; simp [hv])
theorem CellsN.ofMall {b k : Nat} {t : TypeId} {cs : List Value} (h : cl b t cs ∈ M) (a : cs.length = k) : CellsN σ D M b 0 k cs := CellsN.ofM h (AtN.all a)
theorem Cells.ofRslA {b o len cap i sz k j : Nat} {rows : List (List Value)} {r vs : List Value} (hm : rsl sz (some ⟨b, o, none⟩) len cap rows ∈ D) (hr : rows[i]? = some r) (a : AtN k r j vs) : Cells σ D M b (o + i * sz + j) vs := (Cells.ofRsl hm hr).sub a
theorem Cells.ofOwnA {b o len cap i sz k j : Nat} {e : TypeId} {rows : List (List Value)} {r vs : List Value} (hm : own sz e (some ⟨b, o, none⟩) len cap rows ∈ M) (hr : rows[i]? = some r) (a : AtN k r j vs) : Cells σ D M b (o + i * sz + j) vs := (Cells.ofOwn hm hr).sub a
theorem CellsN.ofRslA {b o len cap i sz k j : Nat} {rows : List (List Value)} {r vs : List Value} (hm : rsl sz (some ⟨b, o, none⟩) len cap rows ∈ D) (hr : rows[i]? = some r) (a : AtN k r j vs) : CellsN σ D M b (o + i * sz + j) k vs := ⟨a.1, Cells.ofRslA hm hr a⟩
theorem CellsN.ofOwnA {b o len cap i sz k j : Nat} {e : TypeId} {rows : List (List Value)} {r vs : List Value} (hm : own sz e (some ⟨b, o, none⟩) len cap rows ∈ M) (hr : rows[i]? = some r) (a : AtN k r j vs) : CellsN σ D M b (o + i * sz + j) k vs := ⟨a.1, Cells.ofOwnA hm hr a⟩
theorem CellsN.ofRsl {b o len cap i sz k : Nat} {rows : List (List Value)} {r : List Value} (hm : rsl sz (some ⟨b, o, none⟩) len cap rows ∈ D) (hr : rows[i]? = some r) (hk : r.length = k) : CellsN σ D M b (o + i * sz) k r := ⟨hk, Cells.ofRsl hm hr⟩
theorem CellsN.ofOwn {b o len cap i sz k : Nat} {e : TypeId} {rows : List (List Value)} {r : List Value} (hm : own sz e (some ⟨b, o, none⟩) len cap rows ∈ M) (hr : rows[i]? = some r) (hk : r.length = k) : CellsN σ D M b (o + i * sz) k r := ⟨hk, Cells.ofOwn hm hr⟩
variable {κ ν : Type} [DecidableEq κ] {kenc : κ → Value} {venc : ν → Value}
theorem L.look1S {t kt et : TypeId} {x y : Operand} {b : Nat} {k : κ} {l : List (κ × ν)} {z : Value} {v : ν} (hd : Nat.blt d n = true) (hU : P.underlying t = some (.map kt et)) (hK : KeyT P kt kenc) (hz : ∀ w, (zeroValue et).run P w = .ok z w)
    (hx : ev K x = some (.map (some b))) (hy : ev K y = some (kenc k)) (hm : mp b kenc venc l ∈ M) (hl : look l k = some v)
    (next : TL m P σ n ops Q rest ((d, venc v) :: K) D M) : TL m P σ n ops Q (⟨some d, .lookup t x y false, ty, pos, aft, none⟩ :: rest) K D M :=
  L.lookup1 hd hU hK hz hx hy hm (by rw [hl]; exact next)
theorem L.look1N {t kt et : TypeId} {x y : Operand} {b : Nat} {k : κ} {l : List (κ × ν)} {z : Value} (hd : Nat.blt d n = true) (hU : P.underlying t = some (.map kt et)) (hK : KeyT P kt kenc) (hz : ∀ w, (zeroValue et).run P w = .ok z w)
    (hx : ev K x = some (.map (some b))) (hy : ev K y = some (kenc k)) (hm : mp b kenc venc l ∈ M) (hl : look l k = none)
    (next : TL m P σ n ops Q rest ((d, z) :: K) D M) : TL m P σ n ops Q (⟨some d, .lookup t x y false, ty, pos, aft, none⟩ :: rest) K D M :=
  L.lookup1 hd hU hK hz hx hy hm (by rw [hl]; exact next)
end
end Cv
namespace Cv
open Go
theorem j0 {p : Prop} (h : p := by first | with_reducible assumption | omega | (simp; done) | (simp; omega) | (simp [*]; done) | (simp [*]; omega)) : p := h
theorem j1 {p : Prop} (h : p := by first | with_reducible assumption | (simp; done) | (simp only [List.length_map]; with_reducible assumption) | (simp [*]; done) | rfl) : p := h
theorem qM {p : Prop} (h : p := by (repeat (first | with_reducible exact mem_head | apply mem_tail)) <;> fail) : p := h
theorem qP {p : Prop} (h : p := by (repeat (first | with_reducible exact Pull.here | apply Pull.there)) <;> fail) : p := h
theorem qU {p : Prop} (h : p := by (repeat (first | with_reducible exact Upd.here | apply Upd.there)) <;> fail) : p := h
theorem qO1 {p : Prop} (h : p := by (repeat (first | exact One.nil | refine One.cons rfl ?_ | assumption)) <;> fail) : p := h
theorem qS {p : Prop} (h : p := by (repeat (first | exact Sel.nil | (apply Sel.cons; focus (repeat (first | with_reducible exact Pull.here | apply Pull.there))))) <;> fail) : p := h
theorem qD {p : Prop} (h : p := by (repeat (first | with_reducible exact SubD.refl _ | with_reducible exact SubD.nil _ | (apply SubD.cons; focus ((repeat (first | with_reducible exact mem_head | apply mem_tail)); done)) | with_reducible apply SubD.skip | exact SubD.refl _ | apply SubD.skip)) <;> fail) : p := h
theorem qF {p : Prop} (h : p := by (repeat (first | with_reducible exact Ent.refl _ | (apply Fit.cons; focus ((repeat (first | with_reducible exact Pull.here | apply Pull.there)); done)) | apply Ent.skip | exact Ent.refl _)) <;> fail) : p := h
theorem qA {p : Prop} (h : p := by (repeat (first | with_reducible exact AppL.nil | apply AppL.cons)) <;> fail) : p := h
theorem qR {p : Prop} (h : p := by (repeat (first | with_reducible exact AppL.nil | with_reducible apply AppL.cons | with_reducible exact AppL.refl | apply AppL.cons)) <;> fail) : p := h
theorem qT {p : Prop} (h : p := by first | omega | assumption | rfl | decide | (simp; done) | (simp_all; done)) : p := h
theorem qI {p : Prop} (h : p := by first | omega | (simp only [List.length_map, List.length_append, List.length_cons, List.length_nil, List.length_take, List.length_drop] at *; omega)) : p := h
theorem qL {p : Prop} (h : p := by first | with_reducible assumption | omega | (simp; done) | (simp; omega) | (simp [*]; done) | (simp [*]; omega)) : p := h
theorem qE {p : Prop} (h : p := by (repeat (first | with_reducible exact SetAt.here | with_reducible exact SetAt.none | with_reducible apply SetAt.more | with_reducible apply SetAt.there | with_reducible exact SetAt.idx rfl j0 | with_reducible exact SetAt.idxL rfl j0 | with_reducible apply SetAt.tail 0 j0 rfl | with_reducible apply SetAt.tail 1 j0 rfl | with_reducible apply SetAt.tail 2 j0 rfl | with_reducible apply SetAt.tail 3 j0 rfl | with_reducible apply SetAt.tail 4 j0 rfl | exact SetAt.here | exact SetAt.none | apply SetAt.more | apply SetAt.there)) <;> fail) : p := h
theorem qO {p : Prop} (h : p := by (repeat (first | with_reducible exact One.mapW | with_reducible exact One.mapY | with_reducible exact One.nil | with_reducible refine One.cons (by first | rfl | assumption) ?_ | with_reducible refine One.app ?_ ?_ | assumption | exact One.nil | refine One.cons rfl ?_)) <;> fail) : p := h
theorem qG {p : Prop} (h : p := by first | assumption | exact map_get (by assumption) | (simp [*]; done)) : p := h
theorem qC {p : Prop} (h : p := by first | (apply Cells.ofM; (focus ((repeat (first | with_reducible exact mem_head | apply mem_tail)); done)); ((repeat (first | with_reducible exact AtN.nil | with_reducible apply AtN.take | with_reducible apply AtN.skip | with_reducible exact AtN.idxD j0 | with_reducible exact AtN.idxL j0 | with_reducible apply AtN.tail 0 j0 rfl | with_reducible apply AtN.tail 1 j0 rfl | with_reducible apply AtN.tail 2 j0 rfl | with_reducible apply AtN.tail 3 j0 rfl | with_reducible apply AtN.tail 4 j0 rfl | with_reducible exact AtN.all j0 | with_reducible exact AtN.left j0 | with_reducible exact AtN.one (by first | assumption | simp [*]) | exact AtN.nil | apply AtN.take | apply AtN.skip)); done)) | (apply Cells.ofD; (repeat (first | with_reducible exact mem_head | apply mem_tail)); done) | (apply Cells.ofF; (focus ((repeat (first | with_reducible exact mem_head | apply mem_tail)); done)); ((repeat (first | with_reducible exact AtN.nil | with_reducible apply AtN.take | with_reducible apply AtN.skip | with_reducible exact AtN.idxD j0 | with_reducible exact AtN.idxL j0 | with_reducible apply AtN.tail 0 j0 rfl | with_reducible apply AtN.tail 1 j0 rfl | with_reducible apply AtN.tail 2 j0 rfl | with_reducible apply AtN.tail 3 j0 rfl | with_reducible apply AtN.tail 4 j0 rfl | with_reducible exact AtN.all j0 | with_reducible exact AtN.left j0 | with_reducible exact AtN.one (by first | assumption | simp [*]) | exact AtN.nil | apply AtN.take | apply AtN.skip)); done)) | (apply Cells.ofDs; (focus ((repeat (first | with_reducible exact mem_head | apply mem_tail)); done)); ((repeat (first | with_reducible exact AtN.nil | with_reducible apply AtN.take | with_reducible apply AtN.skip | with_reducible exact AtN.idxD j0 | with_reducible exact AtN.idxL j0 | with_reducible apply AtN.tail 0 j0 rfl | with_reducible apply AtN.tail 1 j0 rfl | with_reducible apply AtN.tail 2 j0 rfl | with_reducible apply AtN.tail 3 j0 rfl | with_reducible apply AtN.tail 4 j0 rfl | with_reducible exact AtN.all j0 | with_reducible exact AtN.left j0 | with_reducible exact AtN.one (by first | assumption | simp [*]) | exact AtN.nil | apply AtN.take | apply AtN.skip)); done)) | (apply Cells.ofRsl1; (focus ((repeat (first | with_reducible exact mem_head | apply mem_tail)); done)); (focus (with_reducible assumption)); rfl) | (apply Cells.ofRsl; (focus ((repeat (first | with_reducible exact mem_head | apply mem_tail)); done)); (first | assumption | exact map_get (by assumption) | (simp [*]; done))) | (apply Cells.ofOwn1; (focus ((repeat (first | with_reducible exact mem_head | apply mem_tail)); done)); (focus (with_reducible assumption)); rfl) | (apply Cells.ofOwn; (focus ((repeat (first | with_reducible exact mem_head | apply mem_tail)); done)); (first | assumption | exact map_get (by assumption) | (simp [*]; done))) | (apply Cells.ofRslA; (focus ((repeat (first | with_reducible exact mem_head | apply mem_tail)); done)); (focus (first | assumption | exact map_get (by assumption) | (simp [*]; done))); ((repeat (first | with_reducible exact AtN.nil | with_reducible apply AtN.take | with_reducible apply AtN.skip | with_reducible exact AtN.idxD j0 | with_reducible exact AtN.idxL j0 | with_reducible apply AtN.tail 0 j0 rfl | with_reducible apply AtN.tail 1 j0 rfl | with_reducible apply AtN.tail 2 j0 rfl | with_reducible apply AtN.tail 3 j0 rfl | with_reducible apply AtN.tail 4 j0 rfl | with_reducible exact AtN.all j0 | with_reducible exact AtN.left j0 | with_reducible exact AtN.one (by first | assumption | simp [*]) | exact AtN.nil | apply AtN.take | apply AtN.skip)); done)) | (apply Cells.ofOwnA; (focus ((repeat (first | with_reducible exact mem_head | apply mem_tail)); done)); (focus (first | assumption | exact map_get (by assumption) | (simp [*]; done))); ((repeat (first | with_reducible exact AtN.nil | with_reducible apply AtN.take | with_reducible apply AtN.skip | with_reducible exact AtN.idxD j0 | with_reducible exact AtN.idxL j0 | with_reducible apply AtN.tail 0 j0 rfl | with_reducible apply AtN.tail 1 j0 rfl | with_reducible apply AtN.tail 2 j0 rfl | with_reducible apply AtN.tail 3 j0 rfl | with_reducible apply AtN.tail 4 j0 rfl | with_reducible exact AtN.all j0 | with_reducible exact AtN.left j0 | with_reducible exact AtN.one (by first | assumption | simp [*]) | exact AtN.nil | apply AtN.take | apply AtN.skip)); done))) : p := h
theorem qN {p : Prop} (h : p := by first | (with_reducible apply CellsN.ofMall; (focus ((repeat (first | with_reducible exact mem_head | apply mem_tail)); done)); (first | rfl | assumption)) | (apply CellsN.ofM; (focus ((repeat (first | with_reducible exact mem_head | apply mem_tail)); done)); ((repeat (first | with_reducible exact AtN.nil | with_reducible apply AtN.take | with_reducible apply AtN.skip | with_reducible exact AtN.idxD j0 | with_reducible exact AtN.idxL j0 | with_reducible apply AtN.tail 0 j0 rfl | with_reducible apply AtN.tail 1 j0 rfl | with_reducible apply AtN.tail 2 j0 rfl | with_reducible apply AtN.tail 3 j0 rfl | with_reducible apply AtN.tail 4 j0 rfl | with_reducible exact AtN.all j0 | with_reducible exact AtN.left j0 | with_reducible exact AtN.one (by first | assumption | simp [*]) | exact AtN.nil | apply AtN.take | apply AtN.skip)); done)) | (apply CellsN.ofD; (focus ((repeat (first | with_reducible exact mem_head | apply mem_tail)); done)); rfl) | (apply CellsN.ofF; (focus ((repeat (first | with_reducible exact mem_head | apply mem_tail)); done)); ((repeat (first | with_reducible exact AtN.nil | with_reducible apply AtN.take | with_reducible apply AtN.skip | with_reducible exact AtN.idxD j0 | with_reducible exact AtN.idxL j0 | with_reducible apply AtN.tail 0 j0 rfl | with_reducible apply AtN.tail 1 j0 rfl | with_reducible apply AtN.tail 2 j0 rfl | with_reducible apply AtN.tail 3 j0 rfl | with_reducible apply AtN.tail 4 j0 rfl | with_reducible exact AtN.all j0 | with_reducible exact AtN.left j0 | with_reducible exact AtN.one (by first | assumption | simp [*]) | exact AtN.nil | apply AtN.take | apply AtN.skip)); done)) | (apply CellsN.ofDs; (focus ((repeat (first | with_reducible exact mem_head | apply mem_tail)); done)); ((repeat (first | with_reducible exact AtN.nil | with_reducible apply AtN.take | with_reducible apply AtN.skip | with_reducible exact AtN.idxD j0 | with_reducible exact AtN.idxL j0 | with_reducible apply AtN.tail 0 j0 rfl | with_reducible apply AtN.tail 1 j0 rfl | with_reducible apply AtN.tail 2 j0 rfl | with_reducible apply AtN.tail 3 j0 rfl | with_reducible apply AtN.tail 4 j0 rfl | with_reducible exact AtN.all j0 | with_reducible exact AtN.left j0 | with_reducible exact AtN.one (by first | assumption | simp [*]) | exact AtN.nil | apply AtN.take | apply AtN.skip)); done)) | (apply CellsN.ofRsl; (focus ((repeat (first | with_reducible exact mem_head | apply mem_tail)); done)); (focus (first | assumption | exact map_get (by assumption) | (simp [*]; done))); rfl) | (apply CellsN.ofOwn; (focus ((repeat (first | with_reducible exact mem_head | apply mem_tail)); done)); (focus (first | assumption | exact map_get (by assumption) | (simp [*]; done))); rfl) | (apply CellsN.ofRslA; (focus ((repeat (first | with_reducible exact mem_head | apply mem_tail)); done)); (focus (first | assumption | exact map_get (by assumption) | (simp [*]; done))); ((repeat (first | with_reducible exact AtN.nil | with_reducible apply AtN.take | with_reducible apply AtN.skip | with_reducible exact AtN.idxD j0 | with_reducible exact AtN.idxL j0 | with_reducible apply AtN.tail 0 j0 rfl | with_reducible apply AtN.tail 1 j0 rfl | with_reducible apply AtN.tail 2 j0 rfl | with_reducible apply AtN.tail 3 j0 rfl | with_reducible apply AtN.tail 4 j0 rfl | with_reducible exact AtN.all j0 | with_reducible exact AtN.left j0 | with_reducible exact AtN.one (by first | assumption | simp [*]) | exact AtN.nil | apply AtN.take | apply AtN.skip)); done)) | (apply CellsN.ofOwnA; (focus ((repeat (first | with_reducible exact mem_head | apply mem_tail)); done)); (focus (first | assumption | exact map_get (by assumption) | (simp [*]; done))); ((repeat (first | with_reducible exact AtN.nil | with_reducible apply AtN.take | with_reducible apply AtN.skip | with_reducible exact AtN.idxD j0 | with_reducible exact AtN.idxL j0 | with_reducible apply AtN.tail 0 j0 rfl | with_reducible apply AtN.tail 1 j0 rfl | with_reducible apply AtN.tail 2 j0 rfl | with_reducible apply AtN.tail 3 j0 rfl | with_reducible apply AtN.tail 4 j0 rfl | with_reducible exact AtN.all j0 | with_reducible exact AtN.left j0 | with_reducible exact AtN.one (by first | assumption | simp [*]) | exact AtN.nil | apply AtN.take | apply AtN.skip)); done))) : p := h
theorem qW {p : Prop} (h : p := by first | with_reducible exact SetAt.whole j0 | (repeat (first | with_reducible exact SetAt.here | with_reducible exact SetAt.none | with_reducible apply SetAt.more | with_reducible apply SetAt.there | with_reducible exact SetAt.idx rfl j0 | with_reducible exact SetAt.idxL rfl j0 | with_reducible apply SetAt.tail 0 j0 rfl | with_reducible apply SetAt.tail 1 j0 rfl | with_reducible apply SetAt.tail 2 j0 rfl | with_reducible apply SetAt.tail 3 j0 rfl | with_reducible apply SetAt.tail 4 j0 rfl | exact SetAt.here | exact SetAt.none | apply SetAt.more | apply SetAt.there)) <;> fail | exact SetAt.whole rfl) : p := h
theorem qk {p : Prop} (h : p := by kernel_rfl) : p := h
theorem ev1 {K : Env} {x0 : Operand} {v0 : Value} (h0 : ev K x0 = some v0) : evs K [x0] [v0] := evs.cons h0 <| evs.nil
theorem ev2 {K : Env} {x0 x1 : Operand} {v0 v1 : Value} (h0 : ev K x0 = some v0) (h1 : ev K x1 = some v1) : evs K [x0, x1] [v0, v1] := evs.cons h0 <| evs.cons h1 <| evs.nil
theorem ev3 {K : Env} {x0 x1 x2 : Operand} {v0 v1 v2 : Value} (h0 : ev K x0 = some v0) (h1 : ev K x1 = some v1) (h2 : ev K x2 = some v2) : evs K [x0, x1, x2] [v0, v1, v2] := evs.cons h0 <| evs.cons h1 <| evs.cons h2 <| evs.nil
theorem ev4 {K : Env} {x0 x1 x2 x3 : Operand} {v0 v1 v2 v3 : Value} (h0 : ev K x0 = some v0) (h1 : ev K x1 = some v1) (h2 : ev K x2 = some v2) (h3 : ev K x3 = some v3) : evs K [x0, x1, x2, x3] [v0, v1, v2, v3] := evs.cons h0 <| evs.cons h1 <| evs.cons h2 <| evs.cons h3 <| evs.nil
theorem ev5 {K : Env} {x0 x1 x2 x3 x4 : Operand} {v0 v1 v2 v3 v4 : Value} (h0 : ev K x0 = some v0) (h1 : ev K x1 = some v1) (h2 : ev K x2 = some v2) (h3 : ev K x3 = some v3) (h4 : ev K x4 = some v4) : evs K [x0, x1, x2, x3, x4] [v0, v1, v2, v3, v4] := evs.cons h0 <| evs.cons h1 <| evs.cons h2 <| evs.cons h3 <| evs.cons h4 <| evs.nil
theorem dq : (∀ (p : Prop) [Decidable p], (decide p = true) = p) ∧ (∀ (p : Prop) [Decidable p], decide p = false ↔ ¬p) ∧ (∀ b : Bool, ((!b) = true) = (b = false)) ∧ (∀ b : Bool, ((!b) = false) = (b = true)) ∧ (∀ a b : Bool, ((a && b) = true) = (a = true ∧ b = true)) ∧ (∀ a b : Bool, ((a || b) = true) = (a = true ∨ b = true)) :=
  ⟨fun p _ => decide_eq_true_eq, fun p _ => decide_eq_false_iff_not, fun b => by simp, fun b => by simp, fun a b => by simp, fun a b => by simp⟩
end Cv
namespace Cv
open Go
/-! ## short forms of the steps that are printed most -/
section
variable {P : Program} {σ : World} {n : Nat} {Q : Post} {K : Env} {D M D0 M0 : List Asn} {ops : Array Oper} {fuel : Nat} {hd : Nat → Nat} {listed : Array Bool}
theorem L.fi {m : Option (List Asn × List Asn)} {rest : List Oper} {d : Nat} {ty : TypeId} {pos : String} {aft : Array Edge} {s : TypeId} {x : Operand} {f k b o z : Nat} (hd : Nat.blt d n = true) (hF : Fo P s f k) (hx : ev K x = some (.pointer (some ⟨b, o, none⟩))) (next : TL m P σ n ops Q rest ((d, .pointer (some ⟨b, z, none⟩)) :: K) D M) (hz : o + k = z := by first | with_reducible exact Nat.zero_add _ | exact rfl) :
    TL m P σ n ops Q (⟨some d, .fieldAddr s x f, ty, pos, aft, none⟩ :: rest) K D M := by subst hz; exact L.field hd hF hx next
theorem A.tq (i : Nat) {d : Nat} {o : Oper} (ho : ops[i]? = some o) (hdst : o.dst = some d) (hp : TL (some (D0, [])) P σ n ops (PV d fun v => A P σ n ops Q hd D0 M0 fuel (listed.setIfInBounds i true) ((d, v) :: K) D M) [o] K D0 []) (hdn : Nat.blt d n = true := by exact rfl) (hpl : Plain o.op = true := by exact rfl) (hns : Region.noSelect ops = true := by kernel_rfl) (hf : Region.free .any ops listed i = true := by kernel_rfl)
    (hr : (Region.ready .any ops listed).contains i = true := by kernel_rfl) (hih : Nat.beq (hd i) 0 = false := by exact rfl) (hD : SubD D0 D := by exact qD) : A P σ n ops Q hd D0 M0 (fuel + 1) listed K D M := A.takeP ho hdst hdn hpl hns hf hr hih hD hp
theorem A.bq (i : Nat) {o : Oper} (ho : ops[i]? = some o) (h : TL none P (dr σ) n ops (Step1 P σ ops Q hd D0 M0 fuel (listed.setIfInBounds i true) i) [o] K D M) (hr : Region.ready .any ops listed = [i] := by kernel_rfl) : A P σ n ops Q hd D0 M0 (fuel + 1) listed K D M := A.branch (is := [i]) hr (by simp) ⟨⟨o, ho, h⟩, trivial⟩
theorem A.br (i : Nat) {o : Oper} (h : TL none P (dr σ) n ops (Step1 P σ ops Q hd D0 M0 fuel (listed.setIfInBounds i true) i) [o] K D M) (hr : Region.ready .any ops listed = [i] := by kernel_rfl) (ho : ops[i]? = some o := by exact rfl) : A P σ n ops Q hd D0 M0 (fuel + 1) listed K D M := A.branch (is := [i]) hr (by simp) ⟨⟨o, ho, h⟩, trivial⟩
end
theorem jO {p : Prop} (h : p := by omega) : p := h
theorem jD {p : Prop} (h : p := by decide) : p := h
theorem jR {p : Prop} (h : p := by first | rfl | omega | (simp; done)) : p := h
theorem jF {p : Prop} (h : p := by rintro u D1 M1 ⟨rfl, rfl, rfl⟩; exact ⟨rfl, _, qA, qF⟩) : p := h
theorem Spec.in0 {P : Program} {f : FuncId} {fn : Func} {c : Code} {n : Nat} {args : List Value} {D0 M0 : List Asn} {R : Value → List Asn → List Asn → Prop} {K0 : Env} {D2 M2 : List Asn → List Asn} (hf : P.funcs[f]? = some fn) (h : ∀ σ D M, T (dset σ []) n (wq P c (bPost P fn (RetPost (dset σ []) R D M))) K0 (D2 D) (M2 M)) (hb : fn.body = some c := by exact rfl) (hn : fn.ntmps = n := by exact rfl)
    (hnm : (fn.name == "runtime.NumGoroutine") = false := by decide) (hl : args.length ≤ n := by exact Nat.le_of_ble_eq_true rfl) (hK0 : argK 0 args = K0 := by exact rfl) (hD2 : ∀ D, AppL D0 D (D2 D) := by exact fun _ => qA) (hM2 : ∀ M, AppL M0 M (M2 M) := by exact fun _ => qA) : Spec P f args D0 M0 R := Spec.intro hf hb hn hnm hl hK0 hD2 hM2 h
end Cv
namespace Cv
open Go
section
variable {P : Program} {σ : World} {n : Nat} {G : Act → World → Prop} {Q : Post} {K : Env} {D M N : List Asn} {m : Option (List Asn × List Asn)} {ops : Array Oper} {rest : List Oper} {d : Nat} {ty : TypeId} {pos : String} {aft : Array Edge}
/-! ## storing into a slice that is one's own -/
theorem rowsAt_set {sz off i : Nat} {rows : List (List Value)} {r : List Value} {cs : Array Value} (H : RowsAt sz rows cs off) (hs : ∀ r ∈ rows, r.length = sz) (hr : r.length = sz) (hi : i < rows.length) (hsz : off + rows.length * sz ≤ cs.size) {cs' : List Value} (h : SetAt cs.toList (off + i * sz) r cs') :
    RowsAt sz (rows.set i r) cs'.toArray off := by
  intro i' j r' v h1 h2
  obtain ⟨hl, rfl⟩ := h
  rw [List.getElem?_set] at h1
  simp only [List.getElem?_toArray]
  by_cases e : i = i'
  · subst e
    rw [if_pos rfl, if_pos hi] at h1
    cases h1
    have hj : j < r.length := (List.getElem?_eq_some_iff.1 h2).1
    rw [List.append_assoc, List.getElem?_append_right (by simp at hl ⊢; omega)]
    rw [List.length_take, Nat.min_eq_left (by simp at hl ⊢; omega), show off + i * sz + j - (off + i * sz) = j by omega, List.getElem?_append_left hj]
    exact h2
  · rw [if_neg e] at h1
    have h3 := H i' j r' v h1 h2
    have hj : j < sz := by rw [← hs r' (List.mem_of_getElem? h1)]; exact (List.getElem?_eq_some_iff.1 h2).1
    have hi' : i' < rows.length := (List.getElem?_eq_some_iff.1 h1).1
    have e3 : cs.toList[off + i' * sz + j]? = some v := by simpa using h3
    rcases Nat.lt_or_ge i' i with hlt | hge
    · have : (i' + 1) * sz ≤ i * sz := Nat.mul_le_mul_right _ hlt
      rw [Nat.add_mul, Nat.one_mul] at this
      rw [List.append_assoc, List.getElem?_append_left (by simp at hl ⊢; omega), List.getElem?_take_of_lt (by omega)]
      exact e3
    · have : (i + 1) * sz ≤ i' * sz := Nat.mul_le_mul_right _ (by omega)
      rw [Nat.add_mul, Nat.one_mul] at this
      rw [List.getElem?_append_right (by simp at hl ⊢; omega)]
      simp only [List.length_append, List.length_take, List.getElem?_drop]
      rw [Nat.min_eq_left (by simp at hl ⊢; omega), hr, show off + i * sz + sz + (off + i' * sz + j - (off + i * sz + sz)) = off + i' * sz + j by omega]
      exact e3
theorem sat_ownSet {w : World} {sz b o len cap i : Nat} {e : TypeId} {rows : List (List Value)} {r : List Value} (ss : Sat σ D (own sz e (some ⟨b, o, none⟩) len cap rows :: N) w) (hr : r.length = sz) (hi : i < len) :
    ∃ cs cs' : List Value, w.heap[b]? = some (.cells cs.toArray e (0, 0)) ∧ SetAt cs (o + i * sz) r cs' ∧ Sat σ D (own sz e (some ⟨b, o, none⟩) len cap (rows.set i r) :: N) (setB w b (.cells cs'.toArray e (0, 0))) := by
  obtain ⟨z, k, h1, h2, h3, h4, ⟨g1, g2, l1, l2, dj, H, hN⟩⟩ := ss.heap
  obtain ⟨e1, e2, e3, e4⟩ := H
  rcases e4 with ⟨e4, _⟩ | ⟨b', o', cs, e4, e5, e6, e7⟩
  · cases e4
  injection e4 with e4; injection e4 with e8 e9
  subst e8; subst e9
  have hb : w.heap[b]? = some (.cells cs e (0, 0)) := h2 _ _ (l1 _ _ e5)
  have hle : len * sz ≤ cap * sz := Nat.mul_le_mul_right _ e2
  have hle2 : (i + 1) * sz ≤ len * sz := Nat.mul_le_mul_right _ hi
  rw [Nat.add_mul, Nat.one_mul] at hle2
  have hset : SetAt cs.toList (o + i * sz) r (cs.toList.take (o + i * sz) ++ r ++ cs.toList.drop (o + i * sz + r.length)) := ⟨by simp; omega, rfl⟩
  refine ⟨cs.toList, _, by simpa using hb, hset, ?_⟩
  have hlen : (cs.toList.take (o + i * sz) ++ r ++ cs.toList.drop (o + i * sz + r.length)).length = cs.size := by simp; omega
  have s2 : Sat σ D (pt b (.cells cs e (0, 0)) :: N) w := ⟨ss.os, ss.tape, ss.output, z, k, h1, h2, h3, h4, g1, g2, l1, l2, dj, e5, hN⟩
  refine (s2.setB (o' := .cells (cs.toList.take (o + i * sz) ++ r ++ cs.toList.drop (o + i * sz + r.length)).toArray e (0, 0)) Upd.here).ent (Ent.imp fun h hp => ?_)
  refine ⟨by simpa using e1, e2, fun r' hr' => ?_, .inr ⟨b, o, _, rfl, hp, by rw [List.size_toArray, hlen]; exact e6, ?_⟩⟩
  · rcases List.mem_or_eq_of_mem_set hr' with h | h
    · exact e3 _ h
    · rw [h]; exact hr
  · exact rowsAt_set e7 e3 hr (by omega) (by rw [e1]; omega) hset
theorem L.storeOA {t e : TypeId} {x y : Operand} {b o len cap sz : Nat} (i : Nat) {rows : List (List Value)} {vs : List Value} {off : Nat} (hS : Ag P t sz) (hx : ev K x = some (.pointer (some ⟨b, off, none⟩))) (ho : off = o + i * sz) (hy : ev K y = some (.agg vs.toArray)) (hk : vs.length = sz) (h1 : ∀ u ∈ vs, u.oneCell' = true)
    (hM : Pull (own sz e (some ⟨b, o, none⟩) len cap rows) M N) (hi : i < len) (next : TL none P σ n ops Q rest K D (own sz e (some ⟨b, o, none⟩) len cap (rows.set i vs) :: N)) : TL none P σ n ops Q (⟨none, .store t x y, ty, pos, aft, none⟩ :: rest) K D M :=
  L.eff (fun a w s ss => by
    subst ho
    obtain ⟨cs, cs', hb, hset, hs⟩ := sat_ownSet (i := i) (r := vs) (ss.ent hM) hk hi
    have hr := run_storeAt (P := P) (t := t) (fun w => (hS w).2) (v := .agg vs.toArray) rfl hk h1 hb hset
    refine ⟨_, ?_, hs⟩
    have ex : a.eval x = _ := s.eval hx
    have ey : a.eval y = _ := s.eval hy
    simp only [execOp, ex, ey]
    simp [hr]) next
/-! ## function values -/
@[reducible] def fnV (f : FuncId) (caps : List Value) : Value := .func (.func f) #[] caps.toArray
theorem L.makeFunc {f : FuncId} {xs : List Operand} {caps : List Value} (hd : Nat.blt d n = true) (hx : evs K xs caps) (next : TL m P σ n ops Q rest ((d, fnV f caps) :: K) D M) :
    TL m P σ n ops Q (⟨some d, .makeFunc (.func f) #[] xs.toArray, ty, pos, aft, none⟩ :: rest) K D M :=
  L.quiet hd (fun a w s ss => by
    have h2 : xs.map a.eval = caps := s.evals hx
    simp [execOp, Instr.makeFunc, h2, fnV]) next
theorem callV_run {f : FuncId} {y : Operand} {xs : List Operand} {ats : Array TypeId} {args caps : List Value} {g : Option (Nat × Bool)} {dst : Option Nat} {D0 M0 : List Asn} {R : Value → List Asn → List Asn → Prop} {a : Act} {w : World} (s : Slots σ n K a) (hy : ev K y = some (fnV f caps)) (hx : evs K xs args) (hS : Spec P f (args ++ caps) D0 M0 R) :
    (execOp a.eval ⟨dst, .call { callee := .value y, args := xs.toArray, argTypes := ats }, ty, pos, aft, g⟩).run P w = .ok (.enter f (args ++ caps).toArray) w := by
  have h1 := hS.fn (args ++ caps).toArray w
  have h2 : xs.map a.eval = args := s.evals hx
  have h3 : a.eval y = _ := s.eval hy
  simp only [execOp, resolve, Deferred.ofValue, h3, fnV, bind, pure, Sem.bind, invoke, List.map_toArray, h2, Array.empty_append, List.append_toArray]
  exact h1
theorem L.callV {f : FuncId} {y : Operand} {xs : List Operand} {ats : Array TypeId} {args caps : List Value} {D0 M0 F : List Asn} {R : Value → List Asn → List Asn → Prop} (hd : Nat.blt d n = true) (hy : ev K y = some (fnV f caps)) (hx : evs K xs args) (hD : SubD D0 D) (hM : Sel M0 M F)
    (hS : Spec P f (args ++ caps) D0 M0 R) (next : ∀ v D' M', R v D' M' → TL none P σ n ops Q rest ((d, v) :: K) (D' ++ D) (M' ++ F)) :
    TL none P σ n ops Q (⟨some d, .call { callee := .value y, args := xs.toArray, argTypes := ats }, ty, pos, aft, none⟩ :: rest) K D M :=
  L.op rfl (fun _ _ _ _ c hc => by cases hc) fun a w s t K' hK' => by
    unfold Oper.wp
    rw [callV_run s hy hx hS]
    refine (hS.run σ D F w ((t.facts (SubD.append hD (.refl _))).ent hM)).mono ?_
    rintro e w' ⟨v, D', M', rfl, hR, hs⟩
    exact hK' _ _ (next v D' M' hR _ _ (s.put v hd) hs)
theorem L.callVF {f : FuncId} {y : Operand} {xs : List Operand} {ats : Array TypeId} {args caps : List Value} {D0 M0 F : List Asn} {R : Value → List Asn → List Asn → Prop} {v : Value} (hd : Nat.blt d n = true) (hy : ev K y = some (fnV f caps)) (hx : evs K xs args) (hD : SubD D0 D) (hM : Sel M0 M F)
    (hS : Spec P f (args ++ caps) D0 M0 R) (hR : ∀ u D' M', R u D' M' → u = v ∧ ∃ M2, AppL M' F M2 ∧ Ent M2 M) (next : TL m P σ n ops Q rest ((d, v) :: K) D M) :
    TL m P σ n ops Q (⟨some d, .call { callee := .value y, args := xs.toArray, argTypes := ats }, ty, pos, aft, none⟩ :: rest) K D M := by
  have hR' : ∀ u D' M', R u D' M' → u = v ∧ Ent (M' ++ F) M := fun u D' M' h => by obtain ⟨e, _, rfl, k⟩ := hR u D' M' h; exact ⟨e, k⟩
  cases m with
  | none =>
    refine L.callV hd hy hx hD hM hS fun u D' M' hu => ?_
    obtain ⟨rfl, e⟩ := hR' u D' M' hu
    exact fun a w s t => next a w s ((t.facts (fun φ h => List.mem_append.2 (.inr h))).ent e)
  | some p =>
    refine fun hp a s => ?_
    have hw : Region.wanted ⟨some d, .call { callee := .value y, args := xs.toArray, argTypes := ats }, ty, pos, aft, none⟩ (yielded ops a.tmps) = true := rfl
    unfold wpQuiet
    rw [hw, if_pos rfl]
    refine ⟨v, fun w t => ?_, next hp _ (s.put v hd)⟩
    unfold Oper.quietAt
    rw [callV_run s hy hx hS]
    refine ⟨rfl, (hS.run σ D F w (((hp.2.2 w t).facts (SubD.append hD (.refl _))).ent hM)).mono ?_⟩
    rintro e w' ⟨u, D', M', rfl, hu, hs⟩
    obtain ⟨rfl, e⟩ := hR' u D' M' hu
    obtain ⟨h1, rfl, _⟩ := hp
    exact ⟨rfl, (hs.facts (fun φ h => List.mem_append.2 (.inr (h1 φ h)))).ent e⟩
theorem Spec.all {f : FuncId} {args : List Value} {M0 : List Asn} {v : Value} (h : Spec P f args [] M0 (fun u D' M' => u = v ∧ D' = [] ∧ M' = M0)) : Spec P f args [] [all M0] (fun u D' M' => u = v ∧ D' = [] ∧ M' = [all M0]) where
  fn := h.fn
  run σ D M w t := (h.run σ D M w (t.ent Ent.unfold)).mono (by
    rintro e w' ⟨u, D', M', he, ⟨rfl, rfl, rfl⟩, hs⟩
    exact ⟨u, [], [_], he, ⟨rfl, rfl, rfl⟩, hs.ent Ent.fold⟩)
theorem T.ownNe {sz len cap : Nat} {e : TypeId} {a : Option Addr} {rows : List (List Value)} (hm : own sz e a len cap rows ∈ M) (hne : 0 < len) (next : ∀ b o, a = some ⟨b, o, none⟩ → T σ n G K D M) : T σ n G K D M :=
  T.ownLen hm (fun h _ => T.ownAddr hm (fun e => by rw [e] at h; simp at h; omega) next)
theorem run_equal_nilSl {P : Program} {t e : TypeId} {a : Option Addr} {k c : Nat} (hU : P.underlying t = some (.slice e)) (w : World) : (Op.equal t (.slice a k c) (.slice none 0 0)).run P w = .ok a.isNone w := by
  unfold Op.equal
  rw [show Op.maxDepth = 9999 + 1 from rfl, Op.equalIn]
  cases a <;> simp [run_underlying hU]
theorem L.eqlSl {x y : Operand} {t t' e : TypeId} {a : Option Addr} {k c : Nat} (hd : Nat.blt d n = true) (hU : P.underlying t = some (.slice e)) (hx : ev K x = some (.slice a k c)) (hy : ev K y = some (.slice none 0 0)) (next : TL m P σ n ops Q rest ((d, .bool a.isNone) :: K) D M) :
    TL m P σ n ops Q (⟨some d, .binOp .eql t x y t', ty, pos, aft, none⟩ :: rest) K D M :=
  L.pureOp hd (fun ρ w s => by
    have h1 := s hx
    have h2 := s hy
    have h3 := run_equal_nilSl (a := a) (k := k) (c := c) hU w
    simp only [execOp, h1, h2, eqGuard_at_slice, binOp]
    simp [h3]) next
theorem L.effV {op : Op} {v : Value} {D' M' : List Asn}
    (h : ∀ a w, Slots σ n K a → Sat σ D M w → ∃ w', (execOp a.eval ⟨none, op, ty, pos, aft, none⟩).run P w = .ok (.value v) w' ∧ Sat σ D' M' w')
    (next : TL none P σ n ops Q rest K D' M') : TL none P σ n ops Q (⟨none, op, ty, pos, aft, none⟩ :: rest) K D M :=
  L.op rfl (fun a w s t => let ⟨_, hr, _⟩ := h a w s t; calm_of hr (fun _ h => by cases h)) fun a w s t K' hK' => by
    obtain ⟨w', hr, hs⟩ := h a w s t
    unfold Oper.wp
    rw [hr]
    exact hK' _ _ (next _ _ (s.put' _) hs)
theorem rowsAt_tail {sz off i k : Nat} {rows : List (List Value)} {zs : List Value} {cs : Array Value} (H : RowsAt sz rows cs off) (hs : ∀ r ∈ rows, r.length = sz) (hz : zs.length = sz) (hi : i ≤ rows.length) (hk : i + k = rows.length) (hsz : off + rows.length * sz ≤ cs.size) {cs' : List Value}
    (h : SetAt cs.toList (off + i * sz) (List.replicate k zs).flatten cs') : RowsAt sz (rows.take i ++ List.replicate k zs) cs'.toArray off := by
  intro i' j r v h1 h2
  obtain ⟨hl, rfl⟩ := h
  have hlen : ((List.replicate k zs).flatten).length = k * sz := by rw [rows_flat_len (sz := sz) (fun r hr => by rw [List.eq_of_mem_replicate hr]; exact hz)]; simp
  have hik : (i + k) * sz ≤ cs.size - off := by rw [hk]; omega
  rw [Nat.add_mul] at hik
  simp only [List.getElem?_toArray]
  rcases Nat.lt_or_ge i' i with hlt | hge
  · have hlt' : (i' + 1) * sz ≤ i * sz := Nat.mul_le_mul_right _ hlt
    rw [Nat.add_mul, Nat.one_mul] at hlt'
    rw [List.getElem?_append_left (by simp; omega), List.getElem?_take_of_lt hlt] at h1
    have hj : j < sz := by rw [← hs r (List.mem_of_getElem? h1)]; exact (List.getElem?_eq_some_iff.1 h2).1
    rw [List.append_assoc, List.getElem?_append_left (by simp at hl ⊢; omega), List.getElem?_take_of_lt (by omega)]
    simpa using H i' j r v h1 h2
  · have h1' := h1
    rw [List.getElem?_append_right (by simp; omega), List.length_take, Nat.min_eq_left hi] at h1
    have hr : r = zs := List.eq_of_mem_replicate (List.mem_of_getElem? h1)
    have hi2 : i' - i < k := by have := (List.getElem?_eq_some_iff.1 h1).1; simpa using this
    have hj : j < sz := by rw [← hz, ← hr]; exact (List.getElem?_eq_some_iff.1 h2).1
    have e1 : off + i' * sz + j = off + i * sz + ((i' - i) * sz + j) := by
      have : i' * sz = i * sz + (i' - i) * sz := by rw [← Nat.add_mul]; congr 1; omega
      omega
    have hb : (i' - i + 1) * sz ≤ k * sz := Nat.mul_le_mul_right _ hi2
    rw [Nat.add_mul, Nat.one_mul] at hb
    rw [e1, List.append_assoc, List.getElem?_append_right (by simp at hl ⊢; omega), List.length_take, Nat.min_eq_left (by simp at hl ⊢; omega),
      show off + i * sz + ((i' - i) * sz + j) - (off + i * sz) = (i' - i) * sz + j by omega, List.getElem?_append_left (by rw [hlen]; omega)]
    exact flatten_at (rows := List.replicate k zs) (fun r hr => by rw [List.eq_of_mem_replicate hr]; exact hz) h1 h2
theorem sat_ownTail {w : World} {sz b o len cap i : Nat} {e : TypeId} {rows : List (List Value)} {zs : List Value} (ss : Sat σ D (own sz e (some ⟨b, o, none⟩) len cap rows :: N) w) (hz : zs.length = sz) (hi : i ≤ len) :
    ∃ cs cs' : List Value, w.heap[b]? = some (.cells cs.toArray e (0, 0)) ∧ SetAt cs (o + i * sz) (List.replicate (len - i) zs).flatten cs' ∧ Sat σ D (own sz e (some ⟨b, o, none⟩) len cap (rows.take i ++ List.replicate (len - i) zs) :: N) (setB w b (.cells cs'.toArray e (0, 0))) := by
  obtain ⟨z, k, h1, h2, h3, h4, ⟨g1, g2, l1, l2, dj, H, hN⟩⟩ := ss.heap
  obtain ⟨e1, e2, e3, e4⟩ := H
  rcases e4 with ⟨e4, _⟩ | ⟨b', o', cs, e4, e5, e6, e7⟩
  · cases e4
  injection e4 with e4; injection e4 with e8 e9
  subst e8; subst e9
  have hb : w.heap[b]? = some (.cells cs e (0, 0)) := h2 _ _ (l1 _ _ e5)
  have hle : len * sz ≤ cap * sz := Nat.mul_le_mul_right _ e2
  have hlen : ((List.replicate (len - i) zs).flatten).length = (len - i) * sz := by rw [rows_flat_len (sz := sz) (fun r hr => by rw [List.eq_of_mem_replicate hr]; exact hz)]; simp
  have hadd : i * sz + (len - i) * sz = len * sz := by rw [← Nat.add_mul]; congr 1; omega
  have hset : SetAt cs.toList (o + i * sz) (List.replicate (len - i) zs).flatten (cs.toList.take (o + i * sz) ++ (List.replicate (len - i) zs).flatten ++ cs.toList.drop (o + i * sz + ((List.replicate (len - i) zs).flatten).length)) := ⟨by rw [hlen]; simp; omega, rfl⟩
  refine ⟨cs.toList, _, by simpa using hb, hset, ?_⟩
  have hlen2 : (cs.toList.take (o + i * sz) ++ (List.replicate (len - i) zs).flatten ++ cs.toList.drop (o + i * sz + ((List.replicate (len - i) zs).flatten).length)).length = cs.size := by
    rw [List.length_append, List.length_append, List.length_take, List.length_drop, hlen]; simp; omega
  have s2 : Sat σ D (pt b (.cells cs e (0, 0)) :: N) w := ⟨ss.os, ss.tape, ss.output, z, k, h1, h2, h3, h4, g1, g2, l1, l2, dj, e5, hN⟩
  refine (s2.setB (o' := .cells (cs.toList.take (o + i * sz) ++ (List.replicate (len - i) zs).flatten ++ cs.toList.drop (o + i * sz + ((List.replicate (len - i) zs).flatten).length)).toArray e (0, 0)) Upd.here).ent (Ent.imp fun h hp => ?_)
  refine ⟨by simp; omega, e2, fun r' hr' => ?_, .inr ⟨b, o, _, rfl, hp, by rw [List.size_toArray, hlen2]; exact e6, ?_⟩⟩
  · rcases List.mem_append.1 hr' with h | h
    · exact e3 _ (List.mem_of_mem_take h)
    · rw [List.eq_of_mem_replicate h]; exact hz
  · exact rowsAt_tail e7 e3 hz (by omega) (by omega) (by rw [e1]; omega) hset
theorem zeroCells_list {zs : List Value} (k : Nat) : (Builtin.zeroCells zs.toArray k).toList = (List.replicate k zs).flatten := by
  have hlen : ((List.replicate k zs).flatten).length = k * zs.length := by rw [rows_flat_len (sz := zs.length) (fun r hr => by rw [List.eq_of_mem_replicate hr])]; simp
  apply List.ext_getElem?
  intro i
  simp only [Builtin.zeroCells, Array.toList_map, Array.toList_range, List.getElem?_map]
  by_cases h : i < k * zs.length
  · have h0 : 0 < zs.length := by
      rcases Nat.eq_zero_or_pos zs.length with e | e
      · rw [e] at h; simp at h
      · exact e
    have hm : i % zs.length < zs.length := Nat.mod_lt _ h0
    have hd : i / zs.length < k := (Nat.div_lt_iff_lt_mul h0).2 h
    have e1 := flatten_at (rows := List.replicate k zs) (sz := zs.length) (fun r hr => by rw [List.eq_of_mem_replicate hr]) (i := i / zs.length) (j := i % zs.length) (r := zs) (v := zs[i % zs.length]) (by simp [hd]) (by simp [hm])
    rw [show i / zs.length * zs.length + i % zs.length = i from by rw [Nat.mul_comm]; exact Nat.div_add_mod _ _] at e1
    rw [e1, List.getElem?_range (by simpa using h)]
    simp [hm]
  · rw [List.getElem?_eq_none (by simpa using h), List.getElem?_eq_none (by rw [hlen]; omega)]
    rfl
theorem L.clearO {t e e' : TypeId} {x : Operand} {b o len cap i sz : Nat} {rows : List (List Value)} {zs : List Value} {z : Value} (hU : P.underlying t = some (.slice e')) (hz : ∀ w, (zeroValue e').run P w = .ok z w) (hzc : z.cells = zs.toArray) (hzs : zs.length = sz) (h1 : ∀ u ∈ zs, u.oneCell' = true)
    (hx : ev K x = some (.slice (cutA (some ⟨b, o, none⟩) cap i sz) (len - i) (cap - i))) (hM : Pull (own sz e (some ⟨b, o, none⟩) len cap rows) M N) (hi : i ≤ len) (hc : len ≤ cap)
    (next : TL none P σ n ops Q rest K D (own sz e (some ⟨b, o, none⟩) len cap (rows.take i ++ List.replicate (len - i) zs) :: N)) :
    TL none P σ n ops Q (⟨none, .call { callee := .builtin .clear, args := #[x], argTypes := #[t] }, ty, pos, aft, none⟩ :: rest) K D M :=
  L.effV (v := .tuple #[]) (fun a w s ss => by
    have ex : a.eval x = _ := s.eval hx
    rcases Nat.lt_or_ge i len with hlt | hge
    · obtain ⟨cs, cs', hb, hset, hs⟩ := sat_ownTail (i := i) (zs := zs) (ss.ent hM) hzs hi
      refine ⟨_, ?_, hs⟩
      have hk : len - i ≠ 0 := by omega
      obtain ⟨k, hk'⟩ : ∃ k, len - i = k + 1 := ⟨len - i - 1, by omega⟩
      have e1 : cutA (some ⟨b, o, none⟩) cap i sz = some ⟨b, o + i * sz, none⟩ := by
        unfold cutA; rw [if_neg (by omega)]; simp [Addr.add]
      have h2 := run_storeCells_at P b (o + i * sz) e (List.replicate (len - i) zs).flatten 0 cs.toArray w hb (by simpa using hset.1) (by
        intro u hu
        obtain ⟨r, hr, hu⟩ := List.mem_flatten.1 hu
        rw [List.eq_of_mem_replicate hr] at hu
        exact h1 u hu)
      simp only [Nat.add_zero] at h2
      have h3 : Sem.run P (storeCells ⟨b, o + i * sz, none⟩ (List.replicate (len - i) zs).flatten) w = .ok () (setB w b (.cells cs'.toArray e (0, 0))) := by
        rw [show (storeCells ⟨b, o + i * sz, none⟩ (List.replicate (len - i) zs).flatten) = storeCells ⟨b, o + i * sz, none⟩ (List.replicate (len - i) zs).flatten 0 from rfl, h2, setRow_setB hb, hset.2]
      rw [e1] at ex
      rw [hk'] at h3 ex
      simp [execOp, resolve, invoke, builtin, ex, Builtin.clear_, run_underlying hU, hz, hzc, zeroCells_list, h3]
    · have : i = len := by omega
      subst this
      refine ⟨w, ?_, (ss.ent hM).ent ?_⟩
      · rw [Nat.sub_self] at ex
        cases hcut : cutA (some ⟨b, o, none⟩) cap i sz with
        | none => rw [hcut] at ex; simp [execOp, resolve, invoke, builtin, ex, Builtin.clear_, run_underlying hU]
        | some p => rw [hcut] at ex; simp [execOp, resolve, invoke, builtin, ex, Builtin.clear_, run_underlying hU]
      · intro h H
        obtain ⟨g1, g2, l1, l2, dj, H1, H2⟩ := H
        have hl := H1.1
        rw [Nat.sub_self, List.replicate_zero, List.append_nil, List.take_of_length_le (by omega)]
        exact ⟨g1, g2, l1, l2, dj, H1, H2⟩) next
end
/-! ## clear of a part, nil slices -/
end Cv
namespace Cv
open Go
section
variable {σ : World} {n : Nat} {G : Act → World → Prop} {K : Env} {D M N : List Asn}
theorem T.rslNil {len cap sz : Nat} {rows : List (List Value)} (hm : rsl sz none len cap rows ∈ D) (next : rows = [] → T σ n G K D M) : T σ n G K D M :=
  T.fact hm (fun z h => by
    rcases h.2.2.2 with h | ⟨b, o, c, t, m, h, _⟩
    · exact h
    · cases h) next
theorem T.ownTo {sz len cap h : Nat} {e : TypeId} {a : Option Addr} {rows : List (List Value)} (hM : Pull (own sz e a len cap rows) M N) (hh : h ≤ len) (next : T σ n G K D (own sz e a h cap (rows.take h) :: N)) : T σ n G K D M :=
  T.drop (Ent.trans hM (Ent.imp fun z H => own_to hh H)) next
end
end Cv
namespace Cv
open Go
section
variable {P : Program} {σ : World} {n : Nat} {Q : Post} {K : Env} {D M N : List Asn} {m : Option (List Asn × List Asn)} {ops : Array Oper} {l rest : List Oper} {d : Nat} {ty : TypeId} {pos : String} {aft : Array Edge}
theorem L.unfold {A : Asn} (L : List Asn) (hM : Pull A M N) (e : A = all L) {X : List Asn} (hX : AppL L N X) (next : TL none P σ n ops Q l K D X) : TL none P σ n ops Q l K D M := T.unfold L hM e hX next
theorem L.foldAs (A : Asn) {L : List Asn} (hM : Sel L M N) (e : A = all L) (next : TL none P σ n ops Q l K D (A :: N)) : TL none P σ n ops Q l K D M := T.foldAs A hM e next
theorem L.ownLen {a : Option Addr} {len cap sz : Nat} {e : TypeId} {rows : List (List Value)} (hm : own sz e a len cap rows ∈ M) (next : rows.length = len → len ≤ cap → TL none P σ n ops Q l K D M) : TL none P σ n ops Q l K D M := T.ownLen hm next
end
end Cv
namespace Cv
open Go
section
variable {P : Program} {σ : World} {n : Nat} {Q : Post} {K : Env} {D M N : List Asn} {m : Option (List Asn × List Asn)} {ops : Array Oper} {l rest : List Oper} {d : Nat}
theorem yielded_undef {a : Act} {j dj : Nat} (s : Slots σ n K a) (hj : (ops[j]?).bind (·.dst) = some dj) (hb : get K dj = some undef) : yielded ops a.tmps j = none := by
  have h := s.val dj _ hb
  rw [Array.getD_eq_getD_getElem?] at h
  unfold yielded
  rw [hj]
  show (match a.tmps[dj]? with | some (.bool b) => some b | _ => none) = none
  cases e : a.tmps[dj]? with
  | none => rfl
  | some v => rw [e] at h; simp only [Option.getD_some] at h; subst h; rfl
theorem L.guardU {o : Oper} {j dj : Nat} {b : Bool} (hg : o.guard = some (j, b)) (hdst : o.dst = some d) (hd : Nat.blt d n = true) (hj : (ops[j]?).bind (·.dst) = some dj) (hb : get K dj = some undef)
    (h : TL m P σ n ops Q rest ((d, undef) :: K) D M) : TL m P σ n ops Q (o :: rest) K D M := by
  have e2 : ∀ a : Act, Slots σ n K a → Region.wanted o (yielded ops a.tmps) = false := fun a s => by simp [Region.wanted, hg, yielded_undef s hj hb]
  cases m with
  | none => exact fun a w s t => wpL.skip (e2 a s) (by rw [hdst]; exact h _ _ (s.put _ hd) t)
  | some p =>
    exact fun hp a s => wpQuiet_skip (e2 a s) (by rw [hdst]; exact h hp _ (s.put _ hd))
end
end Cv
namespace Cv
open Go
section
variable {P : Program} {σ : World} {n : Nat} {Q : Post} {K : Env} {D M N : List Asn} {m : Option (List Asn × List Asn)} {ops : Array Oper} {l rest : List Oper} {d : Nat} {ty : TypeId} {pos : String} {aft : Array Edge}
theorem L.fieldV {t ft : TypeId} {x : Operand} {f off : Nat} {fields : Array Go.Field} {cs : List Value} {v : Value} (hd : Nat.blt d n = true) (hU : P.underlying t = some (.struct fields)) (hf : (fields[f]?).map (fun y => (y.type, y.offset)) = some (ft, off)) (hS : Sc P ft)
    (hx : ev K x = some (.agg cs.toArray)) (hv : cs[off]? = some v) (next : TL m P σ n ops Q rest ((d, v) :: K) D M) : TL m P σ n ops Q (⟨some d, .field t x f, ty, pos, aft, none⟩ :: rest) K D M :=
  L.pureOp hd (fun ρ w s => by
    have e1 := s hx
    cases hfl : fields[f]? with
    | none => rw [hfl] at hf; cases hf
    | some fl =>
      rw [hfl] at hf
      simp only [Option.map_some, Option.some.injEq, Prod.mk.injEq] at hf
      obtain ⟨rfl, rfl⟩ := hf
      have h2 := (hS w).1
      simp only [execOp, e1]
      simp [Instr.field, run_underlying hU, hfl, asAgg, Go.part, h2, hv, Sem.run]) next
end
end Cv
namespace Cv
open Go
/-! ## facts taken together -/
def fcs (L : List Asn) : Asn := Facts L
section
variable {P : Program} {σ : World} {n : Nat} {G : Act → World → Prop} {Q : Post} {K : Env} {D M : List Asn} {L : List Asn} {φ : Asn}
theorem T.refacts {D' : List Asn} (i : ∀ z, Facts D z → Facts D' z) (h : T σ n G K D' M) : T σ n G K D M := fun a w s t => by
  obtain ⟨z, k, h1, h2, h3, h4, h5⟩ := t.heap
  exact h a w s ⟨t.os, t.tape, t.output, z, k, h1, h2, h3, i z h4, h5⟩
theorem facts_in {z : Hp} (hz : Facts D z) (hL : fcs L ∈ D) (h : φ ∈ L) : ∃ y, Hp.le y z ∧ φ y := by
  obtain ⟨y, ly, hy⟩ := hz _ hL
  obtain ⟨x, lx, hx⟩ := hy φ h
  exact ⟨x, lx.trans ly, hx⟩
theorem facts_cons {z : Hp} (hz : Facts D z) (h : ∃ y, Hp.le y z ∧ φ y) : Facts (φ :: D) z := fun ψ hψ => by
  cases hψ with
  | head => exact h
  | tail _ k => exact hz ψ k
theorem T.fcsNil (h : T σ n G K (fcs [] :: D) M) : T σ n G K D M := T.refacts (fun z hz => facts_cons hz ⟨z, Hp.le.refl z, fun χ hχ => by cases hχ⟩) h
theorem T.fcsIn (hL : fcs L ∈ D) (h : φ ∈ L) (next : T σ n G K (φ :: D) M) : T σ n G K D M := T.refacts (fun z hz => facts_cons hz (facts_in hz hL h)) next
theorem T.fcsAdd (hφ : φ ∈ D) (hL : fcs L ∈ D) (next : T σ n G K (fcs (φ :: L) :: D) M) : T σ n G K D M := T.refacts (fun z hz => facts_cons hz ⟨z, Hp.le.refl z, fun χ hχ => by
  cases hχ with
  | head => exact hz φ hφ
  | tail _ k => exact facts_in hz hL k⟩) next
theorem T.fcsSub {L' : List Asn} (h : ∀ χ ∈ L', χ ∈ L) (hL : fcs L ∈ D) (next : T σ n G K (fcs L' :: D) M) : T σ n G K D M := T.refacts (fun z hz => facts_cons hz ⟨z, Hp.le.refl z, fun χ hχ => facts_in hz hL (h χ hχ)⟩) next
end
end Cv
