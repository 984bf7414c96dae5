/-
  My own library for walks, a text of it (CvMem): separation logic over the kit's Calls; no statement of this seat stands here.
-/
import Derived.Test.YtdajpfbgikgkeaaCvOps
set_option linter.unusedVariables false
set_option linter.unusedSimpArgs false
set_option linter.unusedSectionVars false
namespace Cv
open Go

/-- block b: cells cs of type t -/
def cl (b : Nat) (t : TypeId) (cs : List Value) : Asn := pt b (.cells cs.toArray t (0, 0))
/-- from off on block b holds vs -/
def rcs (b off : Nat) (vs : List Value) : Asn := fun h => ∃ c t m, h b = some (.cells c t m) ∧ ∀ i v, vs[i]? = some v → c[off + i]? = some v

/-- vs lies in cs at off; it is k long -/
def AtN (k : Nat) (cs : List Value) (off : Nat) (vs : List Value) : Prop := vs.length = k ∧ ∀ i v, vs[i]? = some v → cs[off + i]? = some v
theorem AtN.nil {cs : List Value} {off : Nat} : AtN 0 cs off [] := ⟨rfl, fun _ _ h => by simp at h⟩
theorem AtN.take {k : Nat} {c : Value} {cs vs : List Value} (h : AtN k cs 0 vs) : AtN (k + 1) (c :: cs) 0 (c :: vs) := ⟨by simp [h.1], fun i v hv => by
  cases i with
  | zero => simpa using hv
  | succ i => simp only [List.getElem?_cons_succ] at hv; have := h.2 i v hv; rw [Nat.zero_add] at this ⊢; simpa using this⟩
theorem AtN.skip {k off : Nat} {c : Value} {cs vs : List Value} (h : AtN k cs off vs) : AtN k (c :: cs) (off + 1) vs := ⟨h.1, fun i v hv => by
  have := h.2 i v hv
  rw [show off + 1 + i = (off + i) + 1 from by omega, List.getElem?_cons_succ]; exact this⟩
theorem AtN.all {k : Nat} {cs : List Value} (h : cs.length = k) : AtN k cs 0 cs := ⟨h, fun i v hv => by rw [Nat.zero_add]; exact hv⟩
theorem AtN.one {cs : List Value} {off : Nat} {v : Value} (h : cs[off]? = some v) : AtN 1 cs off [v] := ⟨rfl, fun i u hu => by
  cases i with
  | zero => simp at hu; subst hu; exact h
  | succ i => simp at hu⟩
theorem AtN.shift {k j off : Nat} {us cs vs : List Value} (hj : us.length = j) (h : AtN k cs off vs) : AtN k (us ++ cs) (j + off) vs := ⟨h.1, fun i v hv => by
  rw [show j + off + i = us.length + (off + i) from by omega, List.getElem?_append_right (by omega)]
  simpa using h.2 i v hv⟩
theorem AtN.left {k : Nat} {cs us : List Value} (hk : us.length = k) : AtN k (us ++ cs) 0 us := ⟨hk, fun i v hv => by
  rw [Nat.zero_add, List.getElem?_append_left (List.getElem?_eq_some_iff.1 hv).1]; exact hv⟩

/-- cs with vs written at off -/
def SetAt (cs : List Value) (off : Nat) (vs : List Value) (cs' : List Value) : Prop := off + vs.length ≤ cs.length ∧ cs' = cs.take off ++ vs ++ cs.drop (off + vs.length)
theorem SetAt.here {c v : Value} {cs : List Value} : SetAt (c :: cs) 0 [v] (v :: cs) := ⟨by simp, by simp⟩
theorem SetAt.there {c : Value} {cs vs cs' : List Value} {off : Nat} (h : SetAt cs off vs cs') : SetAt (c :: cs) (off + 1) vs (c :: cs') := ⟨by simp only [List.length_cons]; have := h.1; omega, by
  rw [h.2, show off + 1 + vs.length = (off + vs.length) + 1 from by omega]; simp⟩
theorem SetAt.whole {cs vs : List Value} (h : vs.length = cs.length) : SetAt cs 0 vs vs := ⟨by omega, by simp [h]⟩
theorem SetAt.more {c v : Value} {cs vs cs' : List Value} (h : SetAt cs 0 vs cs') : SetAt (c :: cs) 0 (v :: vs) (v :: cs') := ⟨by simp only [List.length_cons]; have := h.1; omega, by
  rw [h.2]; simp⟩
theorem SetAt.none {cs : List Value} : SetAt cs 0 [] cs := ⟨by simp, by simp⟩
theorem SetAt.set {cs : List Value} {off : Nat} {v : Value} (h : off < cs.length) : SetAt cs off [v] (cs.set off v) := ⟨by simp; omega, by
  rw [List.set_eq_take_append_cons_drop, if_pos h]; simp⟩
theorem SetAt.shift {j off : Nat} {us cs vs cs' : List Value} (hj : us.length = j) (h : SetAt cs off vs cs') : SetAt (us ++ cs) (j + off) vs (us ++ cs') := ⟨by simp only [List.length_append]; have := h.1; omega, by
  subst hj
  rw [h.2, List.take_length_add_append, show us.length + off + vs.length = us.length + (off + vs.length) from by omega, List.drop_length_add_append]; simp⟩
theorem SetAt.left {us cs vs : List Value} (h : vs.length = us.length) : SetAt (us ++ cs) 0 vs (vs ++ cs) := ⟨by simp; omega, by simp [h]⟩

/-- type t takes one cell -/
def Sc (P : Program) (t : TypeId) : Prop := ∀ w, (isAgg t).run P w = .ok false w ∧ (Go.sizeOf t).run P w = .ok 1 w
/-- type t is a struct or an array of k cells -/
def Ag (P : Program) (t : TypeId) (k : Nat) : Prop := ∀ w, (isAgg t).run P w = .ok true w ∧ (Go.sizeOf t).run P w = .ok k w
def Ze (P : Program) (t : TypeId) (zs : List Value) : Prop := ∃ z, z.cells = zs.toArray ∧ ∀ w, (zeroValue t).run P w = .ok z w
def Fo (P : Program) (s : TypeId) (f k : Nat) : Prop := ∀ a w, (Instr.fieldAt s (.pointer (some a)) f).run P w = .ok (.pointer (some (a.add k))) w

theorem add_lit (b o k : Nat) : (⟨b, o, none⟩ : Addr).add k = ⟨b, o + k, none⟩ := Addr.add_lit b o k
theorem cell_of {w : World} {b off : Nat} {c : Array Value} {t : TypeId} {m : Nat × Nat} (h : w.heap[b]? = some (.cells c t m)) : w.cell? ⟨b, off, none⟩ = c[off]? := by
  simp [World.cell?, h]

section
variable {P : Program} {σ : World} {n : Nat} {Q : Post} {K : Env} {D M : List Asn} {m : Option (List Asn × List Asn)} {ops : Array Oper} {rest : List Oper} {d : Nat} {ty : TypeId} {pos : String} {aft : Array Edge}

def CellsN (σ : World) (D M : List Asn) (b off k : Nat) (vs : List Value) : Prop := vs.length = k ∧ ∀ w, Sat σ D M w → ∃ c t m, w.heap[b]? = some (.cells c t m) ∧ ∀ i v, vs[i]? = some v → c[off + i]? = some v
theorem CellsN.ofM {b off k : Nat} {t : TypeId} {cs vs : List Value} (h : cl b t cs ∈ M) (a : AtN k cs off vs) : CellsN σ D M b off k vs := ⟨a.1, fun w s =>
  ⟨cs.toArray, t, (0, 0), s.block h, fun i v hv => by simpa using a.2 i v hv⟩⟩
theorem CellsN.ofF {b off k : Nat} {t : TypeId} {cs vs : List Value} (h : cl b t cs ∈ D) (a : AtN k cs off vs) : CellsN σ D M b off k vs := ⟨a.1, fun w s =>
  ⟨cs.toArray, t, (0, 0), s.blockD h, fun i v hv => by simpa using a.2 i v hv⟩⟩
theorem CellsN.ofD {b off k : Nat} {vs : List Value} (h : rcs b off vs ∈ D) (hl : vs.length = k) : CellsN σ D M b off k vs := ⟨hl, fun w s => by
  obtain ⟨y, l, c, t, m, hb, hv⟩ := s.fact h
  exact ⟨c, t, m, l _ _ hb, hv⟩⟩
def Cells (σ : World) (D M : List Asn) (b off : Nat) (vs : List Value) : Prop := ∀ w, Sat σ D M w → ∃ c t m, w.heap[b]? = some (.cells c t m) ∧ ∀ i v, vs[i]? = some v → c[off + i]? = some v
theorem Cells.ofM {b off k : Nat} {t : TypeId} {cs vs : List Value} (h : cl b t cs ∈ M) (a : AtN k cs off vs) : Cells σ D M b off vs := fun w s =>
  ⟨cs.toArray, t, (0, 0), s.block h, fun i v hv => by simpa using a.2 i v hv⟩
theorem Cells.ofF {b off k : Nat} {t : TypeId} {cs vs : List Value} (h : cl b t cs ∈ D) (a : AtN k cs off vs) : Cells σ D M b off vs := fun w s =>
  ⟨cs.toArray, t, (0, 0), s.blockD h, fun i v hv => by simpa using a.2 i v hv⟩
theorem Cells.ofD {b off : Nat} {vs : List Value} (h : rcs b off vs ∈ D) : Cells σ D M b off vs := fun w s => by
  obtain ⟨y, l, c, t, m, hb, hv⟩ := s.fact h
  exact ⟨c, t, m, l _ _ hb, hv⟩
theorem Cells.ofO {b off : Nat} {vs : List Value} (h : rcs b off vs ∈ M) : Cells σ D M b off vs := fun w s => by
  obtain ⟨y, l, c, t, m, hb, hv⟩ := s.own h
  exact ⟨c, t, m, l _ _ hb, hv⟩
theorem Cells.ofDs {b off o k : Nat} {us vs : List Value} (h : rcs b o us ∈ D) (a : AtN k us off vs) : Cells σ D M b (o + off) vs := fun w s => by
  obtain ⟨y, l, c, t, m, hb, hv⟩ := s.fact h
  exact ⟨c, t, m, l _ _ hb, fun i v e => by rw [Nat.add_assoc]; exact hv _ _ (a.2 i v e)⟩
theorem CellsN.ofDs {b off o k : Nat} {us vs : List Value} (h : rcs b o us ∈ D) (a : AtN k us off vs) : CellsN σ D M b (o + off) k vs := ⟨a.1, fun w s => by
  obtain ⟨y, l, c, t, m, hb, hv⟩ := s.fact h
  exact ⟨c, t, m, l _ _ hb, fun i v e => by rw [Nat.add_assoc]; exact hv _ _ (a.2 i v e)⟩⟩
theorem Cells.sub {b off k j : Nat} {us vs : List Value} (h : Cells σ D M b off us) (a : AtN k us j vs) : Cells σ D M b (off + j) vs := fun w s => by
  obtain ⟨c, t, m, hb, hv⟩ := h w s
  exact ⟨c, t, m, hb, fun i v e => by rw [Nat.add_assoc]; exact hv _ _ (a.2 i v e)⟩

theorem L.load {t : TypeId} {x : Operand} {b off : Nat} {v : Value} (hd : Nat.blt d n = true) (hS : Sc P t) (hx : ev K x = some (.pointer (some ⟨b, off, none⟩))) (hc : Cells σ D M b off [v])
    (next : TL m P σ n ops Q rest ((d, v) :: K) D M) : TL m P σ n ops Q (⟨some d, .load t x, ty, pos, aft, none⟩ :: rest) K D M :=
  L.quiet hd (fun a w s ss => by
    obtain ⟨c, t', m, hb, hv⟩ := hc w ss
    have h1 : w.cell? ⟨b, off, none⟩ = some v := by rw [cell_of hb]; exact hv 0 v rfl
    have e : a.eval x = _ := s.eval hx
    simp only [execOp, e]
    have h2 := (hS w).1
    simp [Instr.loadAt, Instr.sureAddr, loadVar, h2, load, h1, Sem.run]) next
theorem L.loadA {t : TypeId} {x : Operand} {b off k : Nat} {vs : List Value} (hd : Nat.blt d n = true) (hS : Ag P t k) (hx : ev K x = some (.pointer (some ⟨b, off, none⟩))) (hc : CellsN σ D M b off k vs)
    (next : TL m P σ n ops Q rest ((d, .agg vs.toArray) :: K) D M) : TL m P σ n ops Q (⟨some d, .load t x, ty, pos, aft, none⟩ :: rest) K D M :=
  L.quiet hd (fun a w s ss => by
    obtain ⟨hl, hc⟩ := hc
    obtain ⟨c, t', m, hb, hv⟩ := hc w ss
    have h1 : (loadCells ⟨b, off, none⟩ vs.length).run P w = .ok vs.toArray w := run_loadCells_list (P := P) w _ vs (fun j v e => by rw [add_lit, cell_of hb]; exact hv j v e)
    have e : a.eval x = _ := s.eval hx
    simp only [execOp, e]
    have h2 := (hS w).1
    have h3 := (hS w).2
    subst hl
    simp [Instr.loadAt, Instr.sureAddr, loadVar, h2, h3, h1]) next

theorem setRow_setB {w : World} {b : Nat} {c c' : Array Value} {t : TypeId} {m : Nat × Nat} (h : w.heap[b]? = some (.cells c t m)) : w.setRow b c' = setB w b (.cells c' t m) := by
  have hlt : b < w.heap.size := (Array.getElem?_eq_some_iff.1 h).1
  have hv : w.heap[b] = .cells c t m := (Array.getElem?_eq_some_iff.1 h).2
  unfold World.setRow setB
  congr 1
  apply Array.ext
  · simp
  · intro k h1 h2
    simp only [Array.getElem_modify]
    split
    · rename_i hk; subst hk; simp [hv]
    · rename_i hk; rw [Array.getElem_setIfInBounds (by simpa using h2)]; simp [hk]
theorem run_storeAt {t : TypeId} {w : World} {b off k : Nat} {cs vs cs' : List Value} {tb : TypeId} {v : Value} (hz : ∀ w, (Go.sizeOf t).run P w = .ok k w) (hv : v.cells = vs.toArray) (hk : vs.length = k) (h1 : ∀ u ∈ vs, u.oneCell' = true)
    (hb : w.heap[b]? = some (.cells cs.toArray tb (0, 0))) (hs : SetAt cs off vs cs') : (Instr.storeAt t (.pointer (some ⟨b, off, none⟩)) v).run P w = .ok () (setB w b (.cells cs'.toArray tb (0, 0))) := by
  have h2 := run_storeCells_at P b off tb vs 0 cs.toArray w hb (by simpa using hs.1) h1
  simp only [Nat.add_zero] at h2
  have h3 : v.cells.toList = vs := by rw [hv]
  have h4 : v.cells.size = k := by rw [hv]; simpa using hk
  have h5 := hz w
  simp [Instr.storeAt, Instr.sureAddr, storeVar, h5, h4, h3, h2]
  rw [setRow_setB hb, hs.2]
  simp
theorem L.store {t tb : TypeId} {x y : Operand} {b off : Nat} {v : Value} {cs cs' : List Value} {M' : List Asn} (hS : Sc P t) (hx : ev K x = some (.pointer (some ⟨b, off, none⟩))) (hy : ev K y = some v) (h1 : v.oneCell' = true)
    (hu : Upd (cl b tb cs) (cl b tb cs') M M') (hs : SetAt cs off [v] cs') (next : TL none P σ n ops Q rest K D M') : TL none P σ n ops Q (⟨none, .store t x y, ty, pos, aft, none⟩ :: rest) K D M :=
  L.eff (fun a w s ss => by
    obtain ⟨O, e1, e2⟩ := hu
    have hb := (ss.ent e1).block (.head _)
    have hv : v.cells = [v].toArray := by cases v <;> first | rfl | cases h1
    have hr := run_storeAt (P := P) (t := t) (fun w => (hS w).2) hv rfl (by simpa using h1) hb hs
    refine ⟨_, ?_, ss.setB (o' := .cells cs'.toArray tb (0, 0)) ⟨O, e1, e2⟩⟩
    have ex : a.eval x = _ := s.eval hx
    have ey : a.eval y = _ := s.eval hy
    simp only [execOp, ex, ey]
    simp [hr]) next
theorem L.storeA {t tb : TypeId} {x y : Operand} {b off k : Nat} {vs cs cs' : List Value} {M' : List Asn} (hS : Ag P t k) (hx : ev K x = some (.pointer (some ⟨b, off, none⟩))) (hy : ev K y = some (.agg vs.toArray)) (hk : vs.length = k) (h1 : ∀ u ∈ vs, u.oneCell' = true)
    (hu : Upd (cl b tb cs) (cl b tb cs') M M') (hs : SetAt cs off vs cs') (next : TL none P σ n ops Q rest K D M') : TL none P σ n ops Q (⟨none, .store t x y, ty, pos, aft, none⟩ :: rest) K D M :=
  L.eff (fun a w s ss => by
    obtain ⟨O, e1, e2⟩ := hu
    have hb := (ss.ent e1).block (.head _)
    have hr := run_storeAt (P := P) (t := t) (fun w => (hS w).2) (v := .agg vs.toArray) rfl hk h1 hb hs
    refine ⟨_, ?_, ss.setB (o' := .cells cs'.toArray tb (0, 0)) ⟨O, e1, e2⟩⟩
    have ex : a.eval x = _ := s.eval hx
    have ey : a.eval y = _ := s.eval hy
    simp only [execOp, ex, ey]
    simp [hr]) next

/-! ### new blocks -/
theorem L.alloc {t : TypeId} {zs : List Value} (hd : Nat.blt d n = true) (hz : Ze P t zs) (next : ∀ b, TL none P σ n ops Q rest ((d, .pointer (some ⟨b, 0, none⟩)) :: K) D (cl b t zs :: M)) :
    TL none P σ n ops Q (⟨some d, .alloc t, ty, pos, aft, none⟩ :: rest) K D M :=
  L.valEx hd (fun v D' M' => ∃ b, v = .pointer (some ⟨b, 0, none⟩) ∧ D' = D ∧ M' = cl b t zs :: M) (fun a w s ss => by
    obtain ⟨z, hz1, hz2⟩ := hz
    refine ⟨_, _, _, w.alloc (.cells z.cells t), ?_, ⟨w.heap.size, rfl, rfl, rfl⟩, ?_⟩
    · simp [execOp, Instr.alloc, hz2, newVar, newRow]
    · rw [hz1]; exact ss.alloc _) (fun v D' M' ⟨b, e1, e2, e3⟩ => by subst e1; subst e2; subst e3; exact next b)
theorem L.box {t : TypeId} {x : Operand} {v : Value} {cs : List Value} (hd : Nat.blt d n = true) (hx : ev K x = some v) (hc : v.cells = cs.toArray) (next : ∀ b, TL none P σ n ops Q rest ((d, .pointer (some ⟨b, 0, none⟩)) :: K) D (cl b t cs :: M)) :
    TL none P σ n ops Q (⟨some d, .box t x, ty, pos, aft, none⟩ :: rest) K D M :=
  L.valEx hd (fun v D' M' => ∃ b, v = .pointer (some ⟨b, 0, none⟩) ∧ D' = D ∧ M' = cl b t cs :: M) (fun a w s ss => by
    refine ⟨_, _, _, w.alloc (.cells v.cells t), ?_, ⟨w.heap.size, rfl, rfl, rfl⟩, ?_⟩
    · have ex : a.eval x = _ := s.eval hx
      simp only [execOp, ex]
      simp [Instr.box, newVar, newRow]
    · rw [hc]; exact ss.alloc _) (fun v D' M' ⟨b, e1, e2, e3⟩ => by subst e1; subst e2; subst e3; exact next b)

/-- BP: the parts, filled into the zero cells zs that begin at pos, give cs -/
def BP (place : Nat → Option (Nat × Nat)) (K : Env) (pos : Nat) (zs : List Value) (parts : List (Nat × Operand)) (cs : List Value) : Prop :=
  ∀ ρ, Ev K ρ → ∀ pre : List Value, pre.length = pos → Instr.fill place (pre ++ zs).toArray (parts.map fun p => (p.1, ρ p.2)) = some (pre ++ cs).toArray
theorem BP.done {place : Nat → Option (Nat × Nat)} {pos : Nat} {zs : List Value} : BP place K pos zs [] zs := fun ρ _ pre _ => by simp [Instr.fill]
theorem BP.doneE {place : Nat → Option (Nat × Nat)} {pos : Nat} {zs out : List Value} (h : zs = out) : BP place K pos zs [] out := h ▸ BP.done
theorem BP.one {place : Nat → Option (Nat × Nat)} {pos i : Nat} {z v : Value} {zs cs : List Value} {x : Operand} {ps : List (Nat × Operand)} (hp : place i = some (pos, 1)) (hx : ev K x = some v) (h1 : v.oneCell' = true)
    (h : BP place K (pos + 1) zs ps cs) : BP place K pos (z :: zs) ((i, x) :: ps) (v :: cs) := fun ρ hρ pre hpre => by
  have hv : v.cells = #[v] := by cases v <;> first | rfl | cases h1
  have := h ρ hρ (pre ++ [v]) (by simp [hpre])
  simp only [List.append_assoc, List.cons_append, List.nil_append] at this
  simp only [List.map_cons, Instr.fill, hp, hρ hx, hv]
  simp only [List.size_toArray, List.length_append, List.length_cons, List.length_nil]
  rw [if_neg (by simp; omega)]
  have e : (pre ++ z :: zs).toArray.setIfInBounds pos v = (pre ++ v :: zs).toArray := by
    subst hpre; simp
  simpa [e] using this
theorem BP.skip {place : Nat → Option (Nat × Nat)} {pos : Nat} {z : Value} {zs cs : List Value} {ps : List (Nat × Operand)}
    (h : BP place K (pos + 1) zs ps cs) : BP place K pos (z :: zs) ps (z :: cs) := fun ρ hρ pre hpre => by
  have := h ρ hρ (pre ++ [z]) (by simp [hpre])
  simpa using this
theorem foldl_fill (l : List Value) : ∀ (pos : Nat) (cs : List Value), pos + l.length ≤ cs.length →
    (l.toArray.zipIdx).foldl (fun cs (p : Value × Nat) => cs.setIfInBounds (pos + p.2) p.1) cs.toArray = (cs.take pos ++ l ++ cs.drop (pos + l.length)).toArray := by
  have key : ∀ (l : List Value) (k pos : Nat) (cs : List Value), pos + k + l.length ≤ cs.length →
      (l.zipIdx k).foldl (fun cs (p : Value × Nat) => cs.setIfInBounds (pos + p.2) p.1) cs.toArray = (cs.take (pos + k) ++ l ++ cs.drop (pos + k + l.length)).toArray := by
    intro l
    induction l with
    | nil => intro k pos cs _; simp
    | cons v l ih =>
      intro k pos cs hl
      simp only [List.zipIdx_cons, List.foldl_cons, List.setIfInBounds_toArray]
      rw [ih (k + 1) pos (cs.set (pos + k) v) (by simp at hl ⊢; omega)]
      congr 1
      have := list_seg_step cs (pos + k) v l (by simp at hl; omega)
      simpa [Nat.add_assoc, Nat.add_comm 1] using this
  intro pos cs hl
  have := key l 0 pos cs (by simpa using hl)
  simpa using this
theorem fill_cons {place : Nat → Option (Nat × Nat)} {cells : Array Value} {i off size : Nat} {v : Value} {ps : List (Nat × Value)} (hp : place i = some (off, size)) (h1 : v.cells.size = size) (h2 : off + v.cells.size ≤ cells.size) :
    Instr.fill place cells ((i, v) :: ps) = Instr.fill place (v.cells.zipIdx.foldl (fun cs (p : Value × Nat) => cs.setIfInBounds (off + p.2) p.1) cells) ps := by
  rw [Instr.fill]
  simp only [hp]
  rw [if_neg (by simp [h1]; omega)]
theorem BP.agg {place : Nat → Option (Nat × Nat)} {pos i k : Nat} {us zs cs : List Value} {x : Operand} {ps : List (Nat × Operand)} (hp : place i = some (pos, k)) (hx : ev K x = some (.agg us.toArray)) (hk : us.length = k) (hz : k ≤ zs.length) {out : List Value} (ha : AppL us cs out)
    (h : BP place K (pos + k) (zs.drop k) ps cs) : BP place K pos zs ((i, x) :: ps) out := fun ρ hρ pre hpre => by
  rw [← ha]
  have := h ρ hρ (pre ++ us) (by simp [hpre, hk])
  simp only [List.map_cons, hρ hx]
  rw [fill_cons hp (by simpa [Value.cells] using hk) (by simp [Value.cells]; omega)]
  have e := foldl_fill us pos (pre ++ zs) (by simp; omega)
  rw [show (Value.agg us.toArray).cells.zipIdx.foldl (fun cs (p : Value × Nat) => cs.setIfInBounds (pos + p.2) p.1) (pre ++ zs).toArray = _ from e]
  subst hpre
  subst hk
  have e2 : List.drop (pre.length + us.length) pre = [] := List.drop_eq_nil_of_le (by omega)
  simpa [List.drop_append, e2] using this

/-- how values of struct type t are built: the zero cells, the fields' places -/
def Bu (P : Program) (t : TypeId) (zs : List Value) (place : Nat → Option (Nat × Nat)) : Prop := ∀ parts w cs, Instr.fill place zs.toArray parts.toList = some cs → (Instr.build t parts).run P w = .ok (.agg cs) w
theorem L.build {t : TypeId} {zs cs : List Value} {place : Nat → Option (Nat × Nat)} {ps : List (Nat × Operand)} (hd : Nat.blt d n = true) (hB : Bu P t zs place) (hp : BP place K 0 zs ps cs)
    (next : TL m P σ n ops Q rest ((d, .agg cs.toArray) :: K) D M) : TL m P σ n ops Q (⟨some d, .build t ps.toArray, ty, pos, aft, none⟩ :: rest) K D M :=
  L.pureOp hd (fun ρ w s => by
    have h1 := hp ρ s [] rfl
    have h2 := hB (ps.map fun p => (p.1, ρ p.2)).toArray w cs.toArray (by simpa using h1)
    simp only [execOp, List.map_toArray]
    simp only [Sem.run_bind, h2]
    rfl) next

/-- a slice's literal -/
def Bs (P : Program) (t e : TypeId) (k : Nat) (zs : List Value) : Prop := ∀ len parts w cs, len * k ≤ 16777216 → Instr.fill (fun i => some (i * k, k)) ((List.replicate len zs).flatten).toArray parts.toList = some cs →
  (Instr.buildSlice t len parts).run P w = .ok (.slice (some ⟨w.heap.size, 0, none⟩) len len) (w.alloc (.cells cs e))
theorem L.buildSlice {t e : TypeId} {k len : Nat} {zs cs : List Value} {ps : List (Nat × Operand)} (hd : Nat.blt d n = true) (hB : Bs P t e k zs) (hl : len * k ≤ 16777216) (hp : BP (fun i => some (i * k, k)) K 0 ((List.replicate len zs).flatten) ps cs)
    (next : ∀ b, TL none P σ n ops Q rest ((d, .slice (some ⟨b, 0, none⟩) len len) :: K) D (cl b e cs :: M)) : TL none P σ n ops Q (⟨some d, .buildSlice t len ps.toArray, ty, pos, aft, none⟩ :: rest) K D M :=
  L.valEx hd (fun v D' M' => ∃ b, v = .slice (some ⟨b, 0, none⟩) len len ∧ D' = D ∧ M' = cl b e cs :: M) (fun a w s ss => by
    have h1 := hp a.eval (fun e => s.eval e) [] rfl
    have h2 := hB len (ps.map fun p => (p.1, a.eval p.2)).toArray w cs.toArray hl (by simpa using h1)
    refine ⟨_, _, _, w.alloc (.cells cs.toArray e), ?_, ⟨w.heap.size, rfl, rfl, rfl⟩, ss.alloc _⟩
    simp only [execOp, List.map_toArray]
    simp only [Sem.run_bind, h2]
    rfl) (fun v D' M' ⟨b, e1, e2, e3⟩ => by subst e1; subst e2; subst e3; exact next b)

/-! ### places -/
theorem L.field {s : TypeId} {x : Operand} {f k b o : Nat} (hd : Nat.blt d n = true) (hF : Fo P s f k) (hx : ev K x = some (.pointer (some ⟨b, o, none⟩))) (next : TL m P σ n ops Q rest ((d, .pointer (some ⟨b, o + k, none⟩)) :: K) D M) :
    TL m P σ n ops Q (⟨some d, .fieldAddr s x f, ty, pos, aft, none⟩ :: rest) K D M :=
  L.pureOp hd (fun ρ w s => by
    have := hF ⟨b, o, none⟩ w
    rw [add_lit] at this
    simp only [execOp, s hx]
    simp [this]) next
theorem L.field0 {s : TypeId} {x : Operand} {f k b : Nat} (hd : Nat.blt d n = true) (hF : Fo P s f k) (hx : ev K x = some (.pointer (some ⟨b, 0, none⟩))) (next : TL m P σ n ops Q rest ((d, .pointer (some ⟨b, k, none⟩)) :: K) D M) :
    TL m P σ n ops Q (⟨some d, .fieldAddr s x f, ty, pos, aft, none⟩ :: rest) K D M :=
  L.field hd hF hx (by rw [Nat.zero_add]; exact next)

/-! ### results that lie in a cell -/
theorem T.retC {fn : Func} {t : Nat} {tt : TypeId} {b off : Nat} {R : Value → List Asn → List Asn → Prop} {D0 M0 D' M' : List Asn} {v : Value} (hr : fn.results = #[.cell t tt]) (hS : Sc P tt) (hx : get K t = some (.pointer (some ⟨b, off, none⟩))) (hc : Cells σ D M b off [v])
    (hR : R v D' M') (hD : SubD (D' ++ D0) D) (hM : Ent M (M' ++ M0)) : T σ n (bodyPost P fn (RetPost σ R D0 M0) .ret) K D M :=
  T.ret0 (.inl rfl) (fun a w s ss => by
    obtain ⟨c, t', m, hb, hv⟩ := hc w ss
    have h1 : w.cell? ⟨b, off, none⟩ = some v := by rw [cell_of hb]; exact hv 0 v rfl
    have h2 := (hS w).1
    have h3 := s.val t _ hx
    rw [Array.getD_eq_getD_getElem?] at h3
    simp [results, hr, h3, asAddr, loadVar, h2, Go.load, h1, Sem.run]) hR hD hM
theorem T.retA {fn : Func} {t k : Nat} {tt : TypeId} {b off : Nat} {R : Value → List Asn → List Asn → Prop} {D0 M0 D' M' : List Asn} {vs : List Value} (hr : fn.results = #[.cell t tt]) (hS : Ag P tt k) (hx : get K t = some (.pointer (some ⟨b, off, none⟩))) (hc : CellsN σ D M b off k vs)
    (hR : R (.agg vs.toArray) D' M') (hD : SubD (D' ++ D0) D) (hM : Ent M (M' ++ M0)) : T σ n (bodyPost P fn (RetPost σ R D0 M0) .ret) K D M :=
  T.ret0 (.inl rfl) (fun a w s ss => by
    obtain ⟨hl, hc⟩ := hc
    obtain ⟨c, t', m, hb, hv⟩ := hc w ss
    have h1 : (loadCells ⟨b, off, none⟩ vs.length).run P w = .ok vs.toArray w := run_loadCells_list (P := P) w _ vs (fun j v e => by rw [add_lit, cell_of hb]; exact hv j v e)
    have h2 := (hS w).1
    have h4 := (hS w).2
    have h3 := s.val t _ hx
    rw [Array.getD_eq_getD_getElem?] at h3
    subst hl
    simp [results, hr, h3, asAddr, loadVar, h2, h4, h1]) hR hD hM
theorem One.nil : ∀ u ∈ ([] : List Value), u.oneCell' = true := by simp
theorem One.cons {v : Value} {vs : List Value} (h : v.oneCell' = true) (k : ∀ u ∈ vs, u.oneCell' = true) : ∀ u ∈ v :: vs, u.oneCell' = true := by
  intro u hu
  rcases List.mem_cons.1 hu with rfl | hu
  · exact h
  · exact k u hu
end
end Cv
