/-
  My own library for walks (CvArr CvCut CvEach CvMore CvAuto CvFn): separation logic over the calls of the kit; no statement of this seat stands here.
-/
import Derived.Test.YtfkpgkgjamaoaaaCvLb
import Derived.Laws.CopyRow
import Derived.Laws.StructEq
import Derived.Test.YtfkpgkgjamaoaaaCvLa
import Derived.KernelRfl
set_option linter.unusedVariables false
set_option linter.unusedSimpArgs false
set_option linter.unusedSectionVars false
namespace Cv
open Go
/-! ## borrowing for a call -/
section
variable {P : Program} {σ : World} {n : Nat} {Q : Post} {K : Env} {D M : List Asn} {m : Option (List Asn × List Asn)} {ops : Array Oper} {rest : List Oper} {d : Nat} {ty : TypeId} {pos : String} {aft : Array Edge}
/-! ## arrays -/
theorem SetAt.idx {α : Type} {l : List α} {f : α → Value} {i : Nat} {x : α} {v : Value} (hv : v = f x) (h : i < l.length) : SetAt (l.map f) i [v] ((l.set i x).map f) := by
  subst hv; rw [List.map_set]; exact SetAt.set (by simpa using h)
theorem AtN.idx {α : Type} {l : List α} {f : α → Value} {i : Nat} {x : α} (h : l[i]? = some x) : AtN 1 (l.map f) i [f x] := AtN.one (by simp [h])
theorem AtN.cut {cs : List Value} {o k : Nat} (h : o + k ≤ cs.length) : AtN k cs o ((cs.drop o).take k) := ⟨by simp; omega, fun i v hv => by
  have hi := (List.getElem?_eq_some_iff.1 hv).1
  simp at hi
  rw [List.getElem?_take_of_lt (by omega), List.getElem?_drop] at hv; exact hv⟩

def gd {α : Type} [Inhabited α] (l : List α) (i : Nat) : α := l.getD i default
theorem gd_get {α : Type} [Inhabited α] {l : List α} {i : Nat} (h : i < l.length) : l[i]? = some (gd l i) := by simp [gd, h]
theorem AtN.idxD {α : Type} [Inhabited α] {l : List α} {f : α → Value} {i : Nat} (h : i < l.length) : AtN 1 (l.map f) i [f (gd l i)] := AtN.idx (gd_get h)
theorem AtN.idxL {α : Type} [Inhabited α] {l : List α} {f : α → Value} {i : Nat} {r : List Value} (h : i < l.length) : AtN 1 (l.map f ++ r) i [f (gd l i)] := AtN.one (by rw [List.getElem?_append_left (by simpa using h)]; simp [gd, h])
theorem AtN.tail {us cs vs : List Value} {k j off : Nat} (o' : Nat) (hj : us.length = j) (ho : off = j + o') (h : AtN k cs o' vs) : AtN k (us ++ cs) off vs := by subst ho; exact AtN.shift hj h
theorem SetAt.idxL {α : Type} {l : List α} {f : α → Value} {i : Nat} {x : α} {v : Value} {r : List Value} (hv : v = f x) (h : i < l.length) : SetAt (l.map f ++ r) i [v] ((l.set i x).map f ++ r) := by
  subst hv
  have h' : i < (l.map f).length := by simpa using h
  have := SetAt.set (cs := l.map f ++ r) (off := i) (v := f x) (by simp; omega)
  rwa [List.set_append_left _ _ h', ← List.map_set] at this
theorem SetAt.tail {us cs vs cs' : List Value} {j off : Nat} (o' : Nat) (hj : us.length = j) (ho : off = j + o') (h : SetAt cs o' vs cs') : SetAt (us ++ cs) off vs (us ++ cs') := by subst ho; exact SetAt.shift hj h
/-! ## a part of a slice, of an array -/
def BdV (v : Option Value) (dflt x : Nat) : Prop := (v = none ∧ x = dflt) ∨ ∃ k, v = some (.int k (x : Int))
def Bd (K : Env) (o : Option Operand) (dflt x : Nat) : Prop := (o = none ∧ x = dflt) ∨ ∃ y k z, o = some y ∧ ev K y = some (.int k z) ∧ z = (x : Int)
theorem Bd.no {dflt : Nat} : Bd K none dflt dflt := .inl ⟨rfl, rfl⟩
theorem Bd.at {dflt x : Nat} {y : Operand} {k : IntKind} {z : Int} (h : ev K y = some (.int k z)) (e : z = (x : Int)) : Bd K (some y) dflt x := .inr ⟨y, k, z, rfl, h, e⟩
theorem Bd.val {o : Option Operand} {dflt x : Nat} {ρ : Operand → Value} (h : Bd K o dflt x) (s : Ev K ρ) : BdV (o.map ρ) dflt x := by
  rcases h with ⟨rfl, rfl⟩ | ⟨y, k, z, rfl, h, rfl⟩
  · exact .inl ⟨rfl, rfl⟩
  · exact .inr ⟨k, by simp [s h]⟩
theorem run_bounds {isS : Bool} {len cap l h : Nat} {lv hv : Option Value} (w : World) (hh : BdV hv len h) (hl : BdV lv 0 l) (h1 : l ≤ h) (h2 : h ≤ cap) : (Instr.sliceBounds isS len cap lv hv none).run P w = .ok (l, h, cap) w := by
  rcases hh with ⟨rfl, rfl⟩ | ⟨kh, rfl⟩ <;> rcases hl with ⟨rfl, rfl⟩ | ⟨kl, rfl⟩ <;> simp [Instr.sliceBounds, run_sliceBound, h1, h2]
def cutA (a : Option Addr) (cap l sz : Nat) : Option Addr := if cap = l then a else a.map (·.add (l * sz))
theorem L.sliceSl {t e : TypeId} {x : Operand} {lo hi : Option Operand} {a : Option Addr} {len cap l h sz : Nat} (hd : Nat.blt d n = true) (hU : P.underlying t = some (.slice e)) (hz : Sz P e sz) (hx : ev K x = some (.slice a len cap)) (hlo : Bd K lo 0 l) (hhi : Bd K hi len h)
    (h1 : l ≤ h) (h2 : h ≤ cap) (next : TL m P σ n ops Q rest ((d, .slice (cutA a cap l sz) (h - l) (cap - l)) :: K) D M) :
    TL m P σ n ops Q (⟨some d, .slice t x lo hi none, ty, pos, aft, none⟩ :: rest) K D M :=
  L.pureOp hd (fun ρ w s => by
    have e1 := s hx
    have e2 := run_bounds (P := P) (isS := true) w (hhi.val s) (hlo.val s) h1 h2
    have e3 := hz w
    simp only [execOp, e1, Option.map_none]
    simp [Instr.sliceAt, run_underlying hU, Instr.slice, e2, e3, cutA]) next
theorem L.sliceArr {t e : TypeId} {x : Operand} {lo hi : Option Operand} {p : Addr} {len l h sz : Nat} (hd : Nat.blt d n = true) (hU : P.underlying t = some (.array len e)) (hz : Sz P e sz) (hx : ev K x = some (.pointer (some p))) (hlo : Bd K lo 0 l) (hhi : Bd K hi len h)
    (h1 : l ≤ h) (h2 : h ≤ len) (next : TL m P σ n ops Q rest ((d, .slice (cutA (some p) len l sz) (h - l) (len - l)) :: K) D M) :
    TL m P σ n ops Q (⟨some d, .slice t x lo hi none, ty, pos, aft, none⟩ :: rest) K D M :=
  L.pureOp hd (fun ρ w s => by
    have e1 := s hx
    have e2 := run_bounds (P := P) (isS := false) w (hhi.val s) (hlo.val s) h1 h2
    have e3 := hz w
    simp only [execOp, e1, Option.map_none]
    have e4 : cutA (some p) len l sz = some (if len = l then p else p.add (l * sz)) := by unfold cutA; split <;> rfl
    rw [e4]
    simp [Instr.sliceAt, run_underlying hU, Instr.sureAddr, e2, e3]) next
/-! ## facts about parts -/
theorem rowsAt_cut {sz off l h : Nat} {rows : List (List Value)} {c : Array Value} (H : RowsAt sz rows c off) : RowsAt sz ((rows.drop l).take (h - l)) c (off + l * sz) := fun i j r v h1 h2 => by
  have hi := (List.getElem?_eq_some_iff.1 h1).1
  simp at hi
  rw [List.getElem?_take_of_lt (by omega), List.getElem?_drop] at h1
  have := H (l + i) j r v h1 h2
  rw [show off + l * sz + i * sz + j = off + (l + i) * sz + j from by rw [Nat.add_mul]; omega]
  exact this
theorem rsl_cut {sz len cap l h : Nat} {a : Option Addr} {rows : List (List Value)} {z : Hp} (h1 : l ≤ h) (h2 : h ≤ len) (H : rsl sz a len cap rows z) : rsl sz (cutA a cap l sz) (h - l) (cap - l) ((rows.drop l).take (h - l)) z := by
  obtain ⟨q1, q2, q3, q4⟩ := H
  refine ⟨by simp; omega, by omega, fun r hr => q3 r (List.mem_of_mem_drop (List.mem_of_mem_take hr)), ?_⟩
  rcases q4 with rfl | ⟨b, off, c, t, m, rfl, e2, e3⟩
  · left; simp
  · by_cases hc : cap = l
    · left; apply List.length_eq_zero_iff.1; simp; omega
    · right
      refine ⟨b, off + l * sz, c, t, m, ?_, e2, rowsAt_cut e3⟩
      simp [cutA, hc, add_lit]
theorem L.sliceR {t e : TypeId} {x : Operand} {lo hi : Option Operand} {a : Option Addr} {len cap l h sz : Nat} {rows : List (List Value)} (hd : Nat.blt d n = true) (hU : P.underlying t = some (.slice e)) (hz : Sz P e sz) (hx : ev K x = some (.slice a len cap)) (hlo : Bd K lo 0 l) (hhi : Bd K hi len h)
    (hm : rsl sz a len cap rows ∈ D) (h1 : l ≤ h) (h2 : h ≤ len) (h3 : len ≤ cap) (next : ∀ a', TL m P σ n ops Q rest ((d, .slice a' (h - l) (cap - l)) :: K) (rsl sz a' (h - l) (cap - l) ((rows.drop l).take (h - l)) :: D) M) :
    TL m P σ n ops Q (⟨some d, .slice t x lo hi none, ty, pos, aft, none⟩ :: rest) K D M :=
  L.sliceSl hd hU hz hx hlo hhi h1 (by omega) (L.derive hm (fun z H => rsl_cut h1 h2 H) (next _))
theorem T.ownLen {G : Act → World → Prop} {a : Option Addr} {len cap sz : Nat} {e : TypeId} {rows : List (List Value)} (hm : own sz e a len cap rows ∈ M) (next : rows.length = len → len ≤ cap → T σ n G K D M) : T σ n G K D M :=
  T.pure (p := rows.length = len ∧ len ≤ cap) hm (fun _ h => ⟨h.1, h.2.1⟩) (fun h => next h.1 h.2)
theorem T.rslLen2 {G : Act → World → Prop} {a : Option Addr} {len cap sz : Nat} {rows : List (List Value)} (hm : rsl sz a len cap rows ∈ D) (next : rows.length = len → len ≤ cap → T σ n G K D M) : T σ n G K D M :=
  T.fact (p := rows.length = len ∧ len ≤ cap) hm (fun _ h => ⟨h.1, h.2.1⟩) (fun h => next h.1 h.2)
theorem T.rslAddr {G : Act → World → Prop} {a : Option Addr} {len cap sz : Nat} {rows : List (List Value)} (hm : rsl sz a len cap rows ∈ D) (hne : rows ≠ []) (next : ∀ b o, a = some ⟨b, o, none⟩ → T σ n G K D M) : T σ n G K D M :=
  T.fact (p := ∃ b o, a = some ⟨b, o, none⟩) hm (fun _ h => by
    obtain ⟨_, _, _, e | ⟨b, o, c, t, m, e, _⟩⟩ := h
    · exact absurd e hne
    · exact ⟨b, o, e⟩) (fun ⟨b, o, h⟩ => next b o h)
theorem T.ownAddr {G : Act → World → Prop} {a : Option Addr} {len cap sz : Nat} {e : TypeId} {rows : List (List Value)} (hm : own sz e a len cap rows ∈ M) (hne : rows ≠ []) (next : ∀ b o, a = some ⟨b, o, none⟩ → T σ n G K D M) : T σ n G K D M :=
  T.pure (p := ∃ b o, a = some ⟨b, o, none⟩) hm (fun _ h => by
    obtain ⟨q1, q2, _, ⟨_, e⟩ | ⟨b, o, cs, e, _⟩⟩ := h
    · exact absurd (List.length_eq_zero_iff.1 (by omega)) hne
    · exact ⟨b, o, e⟩) (fun ⟨b, o, h⟩ => next b o h)
theorem L.idxR {t e : TypeId} {x y : Operand} {b o len cap i sz : Nat} {k : IntKind} {iv : Int} {rows : List (List Value)} {r : List Value} (hd : Nat.blt d n = true) (hU : P.underlying t = some (.slice e)) (hz : Sz P e sz) (hx : ev K x = some (.slice (some ⟨b, o, none⟩) len cap)) (hy : ev K y = some (.int k iv))
    (hm : rsl sz (some ⟨b, o, none⟩) len cap rows ∈ D) (hi : iv = (i : Int)) (hl : i < len) (hr : rows[i]? = some r) (next : TL m P σ n ops Q rest ((d, .pointer (some ⟨b, o + i * sz, none⟩)) :: K) (rcs b (o + i * sz) r :: D) M) :
    TL m P σ n ops Q (⟨some d, .indexAddr t x y, ty, pos, aft, none⟩ :: rest) K D M :=
  L.idxG hd hU hz hx hy hi hl (L.derive hm (fun z hz' => by
    obtain ⟨b', o', e1, e2⟩ := rsl_cells hz' hr
    injection e1 with e1; injection e1 with e3 e4
    subst e3; subst e4; exact e2) next)
/-! ## unsigned 64 -/
theorem wrap_u64 {z : Int} (h1 : 0 ≤ z) (h2 : z ≤ 18446744073709551615) : IntKind.u64.wrap z = z := by
  have e : IntKind.u64.wrap z = z % 2 ^ 64 := by simp [IntKind.wrap, IntKind.signed, IntKind.bits]
  rw [e]; exact Int.emod_eq_of_lt h1 (by omega)
theorem L.subU {x y : Operand} {t t' : TypeId} {a b : Int} (hd : Nat.blt d n = true) (hx : ev K x = some (.int .u64 a)) (hy : ev K y = some (.int .u64 b)) (hw : 0 ≤ a - b ∧ a - b ≤ 18446744073709551615) (next : TL m P σ n ops Q rest ((d, .int .u64 (a - b)) :: K) D M) :
    TL m P σ n ops Q (⟨some d, .binOp .sub t x y t', ty, pos, aft, none⟩ :: rest) K D M :=
  L.subI hd hx hy (by rw [wrap_u64 hw.1 hw.2]; exact next)
theorem L.convU {x : Operand} {src dst : TypeId} {k' : IntKind} {z : Int} {s : TypeDesc} (hd : Nat.blt d n = true) (hS : P.underlying src = some s) (hU : P.underlying dst = some (.int .u64)) (hx : ev K x = some (.int k' z)) (hw : 0 ≤ z ∧ z ≤ 18446744073709551615) (next : TL m P σ n ops Q rest ((d, .int .u64 z) :: K) D M) :
    TL m P σ n ops Q (⟨some d, .convert src dst x, ty, pos, aft, none⟩ :: rest) K D M :=
  L.convI hd hS hU hx (by rw [wrap_u64 hw.1 hw.2]; exact next)
theorem L.convN {x : Operand} {src dst : TypeId} {k' : IntKind} {z : Int} {s : TypeDesc} (hd : Nat.blt d n = true) (hS : P.underlying src = some s) (hU : P.underlying dst = some (.int .i64)) (hx : ev K x = some (.int k' z)) (hw : -9223372036854775808 ≤ z ∧ z ≤ 9223372036854775807) (next : TL m P σ n ops Q rest ((d, .int .i64 z) :: K) D M) :
    TL m P σ n ops Q (⟨some d, .convert src dst x, ty, pos, aft, none⟩ :: rest) K D M :=
  L.convI hd hS hU hx (by rw [wrap_i64 hw.1 hw.2]; exact next)
end
theorem bua_of {P : Program} {t e : TypeId} {len k : Nat} {z : Value} {zs : List Value} (hU : P.underlying t = some (.array len e)) (hz : ∀ w, (zeroValue t).run P w = .ok z w) (hzs : z.cells = zs.toArray) (hs : Sz P e k) : Bu P t zs (fun (i : Nat) => some (i * k, k)) := fun parts w cs h => by
  have hs' := hs w
  simp [Instr.build, hz, run_underlying hU, hzs, hs', h]
theorem run_eqArr {P : Program} {t e : TypeId} {len : Nat} {k : IntKind} {xs ys : List Int} (hU : P.underlying t = some (.array len e)) (hE : P.underlying e = some (.int k)) (hz : Sc P e) (hx : xs.length = len) (hy : ys.length = len) (w : World) :
    (Op.equal t (.agg (xs.map (Value.int k)).toArray) (.agg (ys.map (Value.int k)).toArray)).run P w = .ok (decide (xs = ys)) w := by
  have h2 := (hz w).2
  have h1 := (hz w).1
  rw [show Op.equal t = Op.equalIn (9999 + 1) t from rfl, Op.equalIn]
  simp only [Sem.run_bind, run_underlying hU, Result.andThen, h2]
  simp only [Std.Legacy.Range.forIn_eq_forIn_range', Std.Legacy.Range.size]
  have key : ∀ (m o : Nat), o + m = len → (Sem.run P (forIn (List.range' o m 1) ((none, ()) : Option Bool × Unit) fun i (_ : Option Bool × Unit) => do
          let a ← Go.part e (List.map (Value.int k) xs).toArray (i * 1)
          let b ← Go.part e (List.map (Value.int k) ys).toArray (i * 1)
          let c ← Op.equalIn 9999 e a b
          if (!c) = true then pure (ForInStep.done (some false, ())) else pure (ForInStep.yield (none, ()))) w) = .ok (if xs.drop o = ys.drop o then none else some false, ()) w := by
    intro m
    induction m with
    | zero => intro o h; rw [List.drop_eq_nil_of_le (by omega), List.drop_eq_nil_of_le (by omega)]; simp
    | succ m ih =>
      intro o h
      have ox : o < xs.length := by omega
      have oy : o < ys.length := by omega
      have e1 := List.drop_eq_getElem_cons ox
      have e2 := List.drop_eq_getElem_cons oy
      rw [List.range'_succ, List.forIn_cons]
      simp only [Sem.run_bind, Nat.mul_one]
      have p1 : ∀ (l : List Int) (hl : o < l.length), (Go.part e (List.map (Value.int k) l).toArray o).run P w = .ok (.int k l[o]) w := fun l hl => by
        simp [Go.part, h1, hl]
      rw [p1 xs ox, Result.andThen_ok, p1 ys oy, Result.andThen_ok, run_equalIn_int w 9998 e k k _ _ hE, Result.andThen_ok]
      by_cases hq : xs[o] = ys[o]
      · have := ih (o + 1) (by omega)
        simp only [Nat.mul_one] at this
        simp only [hq, beq_self_eq_true, Bool.not_true, Bool.false_eq_true, if_false, Sem.run_pure, Result.andThen_ok, this, e1, e2, List.cons.injEq, true_and]
      · have hne : ¬ (xs.drop o = ys.drop o) := by rw [e1, e2]; simp only [List.cons.injEq, not_and]; exact fun h => absurd h hq
        have hb : (xs[o] == ys[o]) = false := by simpa using hq
        simp only [hb, hne, Bool.not_false, if_true, if_false, Sem.run_pure, Result.andThen_ok]
  have := key len 0 (by omega)
  simp only [Nat.mul_one, List.drop_zero] at this
  simp only [Nat.mul_one, Nat.sub_zero, Nat.add_sub_cancel, Nat.div_one, this]
  by_cases h : xs = ys <;> simp [h]
section
variable {P : Program} {σ : World} {n : Nat} {Q : Post} {K : Env} {D M : List Asn} {m : Option (List Asn × List Asn)} {ops : Array Oper} {rest : List Oper} {d : Nat} {ty : TypeId} {pos : String} {aft : Array Edge}
theorem Y_int (l : List UInt8) : l.map Y = (l.map (fun b => (b.toNat : Int))).map (Value.int .u8) := by simp [Y]
theorem toNat_inj {l l' : List UInt8} : (l.map (fun b => (b.toNat : Int)) = l'.map (fun b => (b.toNat : Int))) ↔ l = l' := by
  constructor
  · intro h
    have : Function.Injective (fun b : UInt8 => (b.toNat : Int)) := fun a b h => by
      have h' : a.toNat = b.toNat := Int.ofNat.inj h
      exact UInt8.toNat_inj.1 h'
    exact List.map_inj_right (fun a b h => this h) |>.1 h
  · rintro rfl; rfl
end
end Cv
namespace Cv
open Go
theorem T.eqv {σ : World} {n : Nat} {G : Act → World → Prop} {K : Env} {D M N : List Asn} {A B : Asn} (hM : Pull A M N) (e : A = B) (h : T σ n G K D (B :: N)) : T σ n G K D M := by
  subst e; exact T.drop hM h
theorem L.eqv {P : Program} {σ : World} {n : Nat} {Q : Post} {K : Env} {D M N : List Asn} {ops : Array Oper} {l : List Oper} {A B : Asn} (hM : Pull A M N) (e : A = B) (h : TL none P σ n ops Q l K D (B :: N)) : TL none P σ n ops Q l K D M := T.eqv hM e h
end Cv
namespace Cv
theorem map_get {α β} {f : α → β} {l : List α} {k : Nat} {x : α} (h : l[k]? = some x) : (l.map f)[k]? = some (f x) := by simp [h]
end Cv

namespace Cv
open Go
theorem One.mapW {l : List (BitVec 32)} : ∀ u ∈ l.map W, u.oneCell' = true := by intro u hu; obtain ⟨x, _, rfl⟩ := List.mem_map.1 hu; rfl
theorem One.mapY {l : List UInt8} : ∀ u ∈ l.map Y, u.oneCell' = true := by intro u hu; obtain ⟨x, _, rfl⟩ := List.mem_map.1 hu; rfl
theorem One.app {l l' : List Value} (h : ∀ u ∈ l, u.oneCell' = true) (k : ∀ u ∈ l', u.oneCell' = true) : ∀ u ∈ l ++ l', u.oneCell' = true := fun u hu => (List.mem_append.1 hu).elim (h u) (k u)
end Cv
namespace Cv
open Go
section
variable {P : Program} {σ : World} {n : Nat} {Q : Post} {K : Env} {D M : List Asn} {m : Option (List Asn × List Asn)} {ops : Array Oper} {rest : List Oper} {d : Nat} {ty : TypeId} {pos : String} {aft : Array Edge}
theorem src_rsl {w : World} {a : Option Addr} {len cap sz : Nat} {t e : TypeId} {rows : List (List Value)} {y : Hp} (hk : P.underlying t = some (.slice e)) (h1 : ∀ u ∈ rows.flatten, u.oneCell' = true) (ly : Hp.le y (hp w)) (H : rsl sz a len cap rows y) : Go.Src P sz t (.slice a len cap) len rows.flatten w := by
  obtain ⟨q1, q2, q3, q4⟩ := H
  rcases q4 with rfl | ⟨b, off, c, t', mk, rfl, e2, e3⟩
  · simp at q1; subst q1
    cases a with
    | none => exact Go.Src.ofNil w hk cap
    | some p => exact Go.Src.ofSlice w hk p 0 cap [] (by simp) (by simp) (by simp)
  · exact Go.Src.ofSlice w hk ⟨b, off, none⟩ len cap _ (by rw [rows_flat_len q3, q1]) (fun j u hu => by rw [add_lit, cell_of (ly _ _ e2)]; exact rowsAt_flat q3 e3 j u hu) h1
theorem L.appendR {t t2 e e2 : TypeId} {x y : Operand} {a a2 : Option Addr} {len cap m c2 sz bytes : Nat} {rows news : List (List Value)} {N : List Asn} (hd : Nat.blt d n = true) (hU : P.underlying t = some (.slice e)) (hV : P.underlying t2 = some (.slice e2)) (hE : El P e sz bytes)
    (hx : ev K x = some (.slice a len cap)) (hy : ev K y = some (.slice a2 m c2)) (hM : Pull (own sz e a len cap rows) M N) (hs : ∀ w, Sat σ D M w → ∃ y, Hp.le y (hp w) ∧ rsl sz a2 m c2 news y) (h1 : ∀ u ∈ news.flatten, u.oneCell' = true)
    (hb : (len + m) * bytes ≤ 140737488355328) (hb' : len + m ≤ 4611686018427387904)
    (next : ∀ a' cap', TL none P σ n ops Q rest ((d, .slice a' (len + m) cap') :: K) D (own sz e a' (len + m) cap' (rows ++ news) :: N)) :
    TL none P σ n ops Q (⟨some d, .call { callee := .builtin .append, args := #[x, y], argTypes := #[t, t2] }, ty, pos, aft, none⟩ :: rest) K D M :=
  L.valEx hd (fun v D' M' => ∃ a' cap', v = .slice a' (len + m) cap' ∧ D' = D ∧ M' = own sz e a' (len + m) cap' (rows ++ news) :: N) (fun aa w s ss => by
    obtain ⟨y0, ly, H⟩ := hs w ss
    obtain ⟨a', cap', w', hrun, hS⟩ := append_src (ty := ty) hU hE hM (src_rsl hV h1 ly H) H.1 H.2.2.1 hb hb' ss
    refine ⟨_, _, _, w', ?_, ⟨a', cap', rfl, rfl, rfl⟩, hS⟩
    have ex : aa.eval x = _ := s.eval hx
    have ey : aa.eval y = _ := s.eval hy
    simp [execOp, resolve, invoke, builtin, ex, ey, hrun]) (fun v D' M' ⟨a', cap', e1, e2, e3⟩ => by subst e1; subst e2; subst e3; exact next a' cap')
theorem rd_D {φ : Asn} (h : φ ∈ D) : ∀ w, Sat σ D M w → ∃ y, Hp.le y (hp w) ∧ φ y := fun w s => s.fact h
theorem One.yr {l : List UInt8} : ∀ u ∈ (l.map yr).flatten, u.oneCell' = true := by
  intro u hu
  obtain ⟨r, hr, hu⟩ := List.mem_flatten.1 hu
  obtain ⟨b, _, rfl⟩ := List.mem_map.1 hr
  simp at hu; subst hu; rfl
end
end Cv
namespace Cv
open Go
section
variable {P : Program} {σ : World} {n : Nat} {Q : Post} {K : Env} {D M : List Asn} {ops : Array Oper}
theorem L.ownRsl {l : List Oper} {a : Option Addr} {len cap sz : Nat} {e : TypeId} {rows : List (List Value)} {N : List Asn} (hM : Pull (own sz e a len cap rows) M N) (next : TL none P σ n ops Q l K (rsl sz a len cap rows :: D) N) : TL none P σ n ops Q l K D M := T.ownRsl hM next
end
end Cv
namespace Cv
open Go
section
variable {σ : World} {n : Nat} {G : Act → World → Prop} {K : Env} {D M N : List Asn}
theorem T.ownEq {sz len cap : Nat} {e : TypeId} {rows : List (List Value)} (a : Option Addr) (rows' : List (List Value)) (hM : Pull (own sz e a len cap rows) M N) (h : rows = rows') (next : T σ n G K D (own sz e a len cap rows' :: N)) : T σ n G K D M := by
  subst h; exact T.drop hM next
theorem L.ownEq {P : Program} {Q : Post} {ops : Array Oper} {l : List Oper} {sz len cap : Nat} {e : TypeId} {rows : List (List Value)} (a : Option Addr) (rows' : List (List Value)) (hM : Pull (own sz e a len cap rows) M N) (h : rows = rows') (next : TL none P σ n ops Q l K D (own sz e a len cap rows' :: N)) : TL none P σ n ops Q l K D M := T.ownEq a rows' hM h next
end
end Cv
namespace Cv
end Cv
namespace Cv
open Go
section
variable {P : Program} {σ : World} {n : Nat} {G : Act → World → Prop} {Q : Post} {K : Env} {D M : List Asn}
def Join (σ : World) (n : Nat) (I : Env → List Asn → List Asn → Prop) (Kk : Env) (D F : List Asn) : Act → World → Prop := fun a w =>
  ∃ K' D' M', I K' D' M' ∧ Slots σ n (K' ++ Kk) a ∧ Sat σ (D' ++ D) (M' ++ F) w
theorem T.cutC {c : Code} (I : Env → List Asn → List Asn → Prop) {Kk : Env} {M0 F : List Asn} (hk : SubK Kk K) (hM : Sel M0 M F)
    (body : T σ n (wq P c (Exit.then (Join σ n I Kk D F) Q)) K D M)
    (rest : ∀ K' D' M', I K' D' M' → T σ n (Q .normal) (K' ++ Kk) (D' ++ D) (M' ++ F)) : T σ n (wq P c Q) K D M := fun a w s t =>
  wq_mono (fun e a w h => by
    cases e with
    | normal => obtain ⟨K', D', M', hI, hs, ht⟩ := h; exact rest K' D' M' hI a w hs ht
    | exit id => exact h
    | goto l => exact h
    | ret => exact h
    | panic c => exact h
    | outgrown => exact h) (body a w s t)
theorem T.toJoin {I : Env → List Asn → List Asn → Prop} {Kk : Env} {D0 F : List Asn} {K' : Env} {D' M' : List Asn} (hI : I K' D' M')
    (hK : SubK K' K) (hk : SubK Kk K) (hD : SubD D' D) (hd : SubD D0 D) (hM : Ent M (M' ++ F)) : T σ n (Join σ n I Kk D0 F) K D M := fun _ _ s t =>
  ⟨K', D', M', hI, s.sub (hK.append hk), (t.facts (SubD.append hD hd)).ent hM⟩
end
end Cv
namespace Cv
open Go
section
variable {κ ν : Type} [DecidableEq κ]
def each {α : Type} (f : α → Asn) (l : List α) : Asn := all (l.map f)
theorem Ent.unfold1 {L : List Asn} : Ent [all L] L := fun h H => by
  have := Ent.unfold (M := []) h H
  rwa [List.append_nil] at this
theorem Ent.fold1 {L : List Asn} : Ent L [all L] := fun h H => by
  have H' : Holds (L ++ []) h := by rwa [List.append_nil]
  exact Ent.fold (M := []) h H'
theorem each_perm_take {f : κ × ν → Asn} {k : κ} {v : ν} : ∀ {l : List (κ × ν)}, look l k = some v → Ent (l.map f) (f (k, v) :: (del l k).map f)
  | [], h => by cases h
  | (k', u) :: l, h => by
    simp only [look] at h
    by_cases e : k' = k
    · rw [if_pos e] at h; cases h; subst e
      simp only [del, if_true, List.map_cons]; exact .refl _
    · rw [if_neg e] at h
      simp only [del, if_neg e, List.map_cons]
      exact (Ent.cons _ (each_perm_take h)).trans (Ent.swap _ _ _)
theorem each_perm_put {f : κ × ν → Asn} {k : κ} {u : ν} : ∀ {l : List (κ × ν)} {v : ν}, look l k = some v → Ent (f (k, u) :: (del l k).map f) ((put l k u).map f)
  | [], _, h => by cases h
  | (k', u') :: l, v, h => by
    simp only [look] at h
    by_cases e : k' = k
    · subst e
      simp only [del, put, if_true, List.map_cons]; exact .refl _
    · rw [if_neg e] at h
      simp only [del, put, if_neg e, List.map_cons]
      exact (Ent.swap _ _ _).trans (Ent.cons _ (each_perm_put h))
theorem each_perm_new {f : κ × ν → Asn} {k : κ} {u : ν} {l : List (κ × ν)} (h : look l k = none) : Ent (f (k, u) :: l.map f) ((put l k u).map f) := by
  rw [put_none h, List.map_append]
  exact Ent.comm [f (k, u)] (l.map f)
theorem each_take {f : κ × ν → Asn} {k : κ} {v : ν} {l : List (κ × ν)} {M : List Asn} (h : look l k = some v) : Ent (each f l :: M) (f (k, v) :: each f (del l k) :: M) :=
  Ent.trans (Ent.append (N := M) (N' := M) (M := [each f l]) (M' := [f (k, v), each f (del l k)]) (Ent.trans Ent.unfold1 (Ent.trans (each_perm_take h) (Ent.cons _ Ent.fold1))) (.refl _)) (.refl _)
theorem each_put {f : κ × ν → Asn} {k : κ} {v u : ν} {l : List (κ × ν)} {M : List Asn} (h : look l k = some v) : Ent (f (k, u) :: each f (del l k) :: M) (each f (put l k u) :: M) :=
  Ent.append (N := M) (N' := M) (M := [f (k, u), each f (del l k)]) (M' := [each f (put l k u)]) (Ent.trans (Ent.cons _ Ent.unfold1) (Ent.trans (each_perm_put h) Ent.fold1)) (.refl _)
theorem each_new {f : κ × ν → Asn} {k : κ} {u : ν} {l : List (κ × ν)} {M : List Asn} (h : look l k = none) : Ent (f (k, u) :: each f l :: M) (each f (put l k u) :: M) :=
  Ent.append (N := M) (N' := M) (M := [f (k, u), each f l]) (M' := [each f (put l k u)]) (Ent.trans (Ent.cons _ Ent.unfold1) (Ent.trans (each_perm_new h) Ent.fold1)) (.refl _)
theorem mp_put_same {kenc : κ → Value} {venc : ν → Value} {l : List (κ × ν)} {k : κ} {v u : ν} {b : Nat} (h : look l k = some v) (e : venc u = venc v) : mp b kenc venc (put l k u) = mp b kenc venc l := by
  have h1 : (put l k u).map (fun p => (kenc p.1, venc p.2)) = l.map (fun p => (kenc p.1, venc p.2)) := by
    clear b
    induction l with
    | nil => cases h
    | cons p l ih =>
      obtain ⟨k', w⟩ := p
      simp only [look] at h
      by_cases e1 : k' = k
      · rw [if_pos e1] at h; cases h; subst e1; simp [put, e]
      · rw [if_neg e1] at h; simp only [put, if_neg e1, List.map_cons, ih h]
  have h2 : (put l k u).map Prod.fst = l.map Prod.fst := by
    rw [keys_put, if_pos]
    exact List.mem_map.2 ⟨_, mem_of_look h, rfl⟩
  funext z
  simp only [mp, h1, h2]
variable {σ : World} {n : Nat} {G : Act → World → Prop} {K : Env} {D M N : List Asn}
theorem T.eachOpen {f : κ × ν → Asn} {l : List (κ × ν)} {k : κ} {v : ν} (hM : Pull (each f l) M N) (h : look l k = some v) (next : T σ n G K D (f (k, v) :: each f (del l k) :: N)) : T σ n G K D M := T.drop (Ent.trans hM (each_take h)) next
theorem T.eachShut {f : κ × ν → Asn} {l : List (κ × ν)} {k : κ} {v : ν} (u : ν) (h : look l k = some v) (hM : Sel [f (k, u), each f (del l k)] M N) (next : T σ n G K D (each f (put l k u) :: N)) : T σ n G K D M := T.drop (Ent.trans hM (each_put h)) next
theorem T.eachNew {f : κ × ν → Asn} {l : List (κ × ν)} {k : κ} (u : ν) (h : look l k = none) (hM : Sel [f (k, u), each f l] M N) (next : T σ n G K D (each f (put l k u) :: N)) : T σ n G K D M := T.drop (Ent.trans hM (each_new h)) next
theorem put_look {l : List (κ × ν)} {k : κ} {v : ν} (h : look l k = some v) : put l k v = l := by
  induction l with
  | nil => cases h
  | cons p l ih =>
    obtain ⟨k', w⟩ := p
    simp only [look] at h
    by_cases e1 : k' = k
    · rw [if_pos e1] at h; cases h; subst e1; simp [put]
    · rw [if_neg e1] at h; simp only [put, if_neg e1, ih h]
theorem T.eachBack {f : κ × ν → Asn} {l : List (κ × ν)} {k : κ} {v : ν} (h : look l k = some v) (hM : Sel [f (k, v), each f (del l k)] M N) (next : T σ n G K D (each f l :: N)) : T σ n G K D M := T.eachShut v h hM (by rwa [put_look h])
theorem T.unfold {A : Asn} (L : List Asn) (hM : Pull A M N) (e : A = all L) {X : List Asn} (hX : AppL L N X) (next : T σ n G K D X) : T σ n G K D M := by
  subst e; subst hX; exact T.drop (Ent.trans hM Ent.unfold) next
end
end Cv
namespace Cv
open Go
theorem yr_flat : ∀ (l : List UInt8), (l.map yr).flatten = l.map Y
  | [] => rfl
  | b :: l => by simp only [List.map_cons, List.flatten_cons, yr_flat l]; rfl
theorem Spec.imp {P : Program} {f : FuncId} {args : List Value} {D0 M0 : List Asn} {R R' : Value → List Asn → List Asn → Prop} (h : Spec P f args D0 M0 R) (i : ∀ v D M, R v D M → R' v D M) : Spec P f args D0 M0 R' where
  fn := h.fn
  run σ D M w t := (h.run σ D M w t).mono (fun e w' ⟨v, D', M', he, hR, hs⟩ => ⟨v, D', M', he, i _ _ _ hR, hs⟩)
section
variable {P : Program} {σ : World} {n : Nat} {Q : Post} {K : Env} {D M : List Asn} {m : Option (List Asn × List Asn)} {ops : Array Oper} {rest : List Oper} {d : Nat} {ty : TypeId} {pos : String} {aft : Array Edge}
theorem Cells.ofOwn1 {α : Type} {g : α → List Value} {xs : List α} {x : α} {v : Value} {b o len cap i : Nat} {e : TypeId} (hm : own 1 e (some ⟨b, o, none⟩) len cap (xs.map g) ∈ M) (hx : xs[i]? = some x) (hv : g x = [v]) : Cells σ D M b (o + i * 1) [v] :=
  Cells.ofOwn hm (by rw [List.getElem?_map, hx]; simp [hv])
theorem Cells.ofRsl1 {α : Type} {g : α → List Value} {xs : List α} {x : α} {v : Value} {b o len cap i : Nat} (hm : rsl 1 (some ⟨b, o, none⟩) len cap (xs.map g) ∈ D) (hx : xs[i]? = some x) (hv : g x = [v]) : Cells σ D M b (o + i * 1) [v] :=
  Cells.ofRsl hm (by rw [List.getElem?_map, hx]; simp [hv])
theorem CellsN.ofMall {b k : Nat} {t : TypeId} {cs : List Value} (h : cl b t cs ∈ M) (a : cs.length = k) : CellsN σ D M b 0 k cs := CellsN.ofM h (AtN.all a)
theorem Cells.ofRslA {b o len cap i sz k j : Nat} {rows : List (List Value)} {r vs : List Value} (hm : rsl sz (some ⟨b, o, none⟩) len cap rows ∈ D) (hr : rows[i]? = some r) (a : AtN k r j vs) : Cells σ D M b (o + i * sz + j) vs := (Cells.ofRsl hm hr).sub a
theorem Cells.ofOwnA {b o len cap i sz k j : Nat} {e : TypeId} {rows : List (List Value)} {r vs : List Value} (hm : own sz e (some ⟨b, o, none⟩) len cap rows ∈ M) (hr : rows[i]? = some r) (a : AtN k r j vs) : Cells σ D M b (o + i * sz + j) vs := (Cells.ofOwn hm hr).sub a
theorem CellsN.ofRslA {b o len cap i sz k j : Nat} {rows : List (List Value)} {r vs : List Value} (hm : rsl sz (some ⟨b, o, none⟩) len cap rows ∈ D) (hr : rows[i]? = some r) (a : AtN k r j vs) : CellsN σ D M b (o + i * sz + j) k vs := ⟨a.1, Cells.ofRslA hm hr a⟩
theorem CellsN.ofOwnA {b o len cap i sz k j : Nat} {e : TypeId} {rows : List (List Value)} {r vs : List Value} (hm : own sz e (some ⟨b, o, none⟩) len cap rows ∈ M) (hr : rows[i]? = some r) (a : AtN k r j vs) : CellsN σ D M b (o + i * sz + j) k vs := ⟨a.1, Cells.ofOwnA hm hr a⟩
theorem CellsN.ofRsl {b o len cap i sz k : Nat} {rows : List (List Value)} {r : List Value} (hm : rsl sz (some ⟨b, o, none⟩) len cap rows ∈ D) (hr : rows[i]? = some r) (hk : r.length = k) : CellsN σ D M b (o + i * sz) k r := ⟨hk, Cells.ofRsl hm hr⟩
theorem CellsN.ofOwn {b o len cap i sz k : Nat} {e : TypeId} {rows : List (List Value)} {r : List Value} (hm : own sz e (some ⟨b, o, none⟩) len cap rows ∈ M) (hr : rows[i]? = some r) (hk : r.length = k) : CellsN σ D M b (o + i * sz) k r := ⟨hk, Cells.ofOwn hm hr⟩
variable {κ ν : Type} [DecidableEq κ] {kenc : κ → Value} {venc : ν → Value}
end
end Cv
namespace Cv
open Go
theorem qM {p : Prop} (h : p := by (repeat (first | with_reducible exact mem_head | apply mem_tail)) <;> fail) : p := h
theorem qP {p : Prop} (h : p := by (repeat (first | with_reducible exact Pull.here | apply Pull.there)) <;> fail) : p := h
theorem qU {p : Prop} (h : p := by (repeat (first | with_reducible exact Upd.here | apply Upd.there)) <;> fail) : p := h
theorem qO1 {p : Prop} (h : p := by (repeat (first | exact One.nil | refine One.cons rfl ?_ | assumption)) <;> fail) : p := h
theorem qS {p : Prop} (h : p := by (repeat (first | exact Sel.nil | (apply Sel.cons; focus (repeat (first | with_reducible exact Pull.here | apply Pull.there))))) <;> fail) : p := h
theorem qD {p : Prop} (h : p := by (repeat (first | with_reducible exact SubD.refl _ | with_reducible exact SubD.nil _ | (apply SubD.cons; focus ((repeat (first | with_reducible exact mem_head | apply mem_tail)); done)) | with_reducible apply SubD.skip | exact SubD.refl _ | apply SubD.skip)) <;> fail) : p := h
theorem qF {p : Prop} (h : p := by (repeat (first | with_reducible exact Ent.refl _ | (apply Fit.cons; focus ((repeat (first | with_reducible exact Pull.here | apply Pull.there)); done)) | apply Ent.skip | exact Ent.refl _)) <;> fail) : p := h
theorem qA {p : Prop} (h : p := by (repeat (first | with_reducible exact AppL.nil | apply AppL.cons)) <;> fail) : p := h
theorem qR {p : Prop} (h : p := by (repeat (first | with_reducible exact AppL.nil | with_reducible apply AppL.cons | with_reducible exact AppL.refl | apply AppL.cons)) <;> fail) : p := h
theorem qT {p : Prop} (h : p := by first | omega | assumption | rfl | decide | (simp; done) | (simp_all; done)) : p := h
theorem qI {p : Prop} (h : p := by first | omega | (simp only [List.length_map, List.length_append, List.length_cons, List.length_nil, List.length_take, List.length_drop] at *; omega)) : p := h
theorem qL {p : Prop} (h : p := by first | with_reducible assumption | omega | (simp; done) | (simp; omega) | (simp [*]; done) | (simp [*]; omega)) : p := h
theorem qE {p : Prop} (h : p := by (repeat (first | with_reducible exact SetAt.here | with_reducible exact SetAt.none | with_reducible apply SetAt.more | with_reducible apply SetAt.there | with_reducible exact SetAt.idx rfl (by first | with_reducible assumption | omega | (simp; done) | (simp; omega) | (simp [*]; done) | (simp [*]; omega)) | with_reducible exact SetAt.idxL rfl (by first | with_reducible assumption | omega | (simp; done) | (simp; omega) | (simp [*]; done) | (simp [*]; omega)) | with_reducible apply SetAt.tail 0 (by first | with_reducible assumption | omega | (simp; done) | (simp; omega) | (simp [*]; done) | (simp [*]; omega)) rfl | with_reducible apply SetAt.tail 1 (by first | with_reducible assumption | omega | (simp; done) | (simp; omega) | (simp [*]; done) | (simp [*]; omega)) rfl | with_reducible apply SetAt.tail 2 (by first | with_reducible assumption | omega | (simp; done) | (simp; omega) | (simp [*]; done) | (simp [*]; omega)) rfl | with_reducible apply SetAt.tail 3 (by first | with_reducible assumption | omega | (simp; done) | (simp; omega) | (simp [*]; done) | (simp [*]; omega)) rfl | with_reducible apply SetAt.tail 4 (by first | with_reducible assumption | omega | (simp; done) | (simp; omega) | (simp [*]; done) | (simp [*]; omega)) rfl | exact SetAt.here | exact SetAt.none | apply SetAt.more | apply SetAt.there)) <;> fail) : p := h
theorem qO {p : Prop} (h : p := by (repeat (first | with_reducible exact One.mapW | with_reducible exact One.mapY | with_reducible exact One.nil | with_reducible refine One.cons (by first | rfl | assumption) ?_ | with_reducible refine One.app ?_ ?_ | assumption | exact One.nil | refine One.cons rfl ?_)) <;> fail) : p := h
theorem qG {p : Prop} (h : p := by first | assumption | exact map_get (by assumption) | (simp [*]; done)) : p := h
theorem qC {p : Prop} (h : p := by first | (apply Cells.ofM; (focus ((repeat (first | with_reducible exact mem_head | apply mem_tail)); done)); ((repeat (first | with_reducible exact AtN.nil | with_reducible apply AtN.take | with_reducible apply AtN.skip | with_reducible exact AtN.idxD (by first | with_reducible assumption | omega | (simp; done) | (simp; omega) | (simp [*]; done) | (simp [*]; omega)) | with_reducible exact AtN.idxL (by first | with_reducible assumption | omega | (simp; done) | (simp; omega) | (simp [*]; done) | (simp [*]; omega)) | with_reducible apply AtN.tail 0 (by first | with_reducible assumption | omega | (simp; done) | (simp; omega) | (simp [*]; done) | (simp [*]; omega)) rfl | with_reducible apply AtN.tail 1 (by first | with_reducible assumption | omega | (simp; done) | (simp; omega) | (simp [*]; done) | (simp [*]; omega)) rfl | with_reducible apply AtN.tail 2 (by first | with_reducible assumption | omega | (simp; done) | (simp; omega) | (simp [*]; done) | (simp [*]; omega)) rfl | with_reducible apply AtN.tail 3 (by first | with_reducible assumption | omega | (simp; done) | (simp; omega) | (simp [*]; done) | (simp [*]; omega)) rfl | with_reducible apply AtN.tail 4 (by first | with_reducible assumption | omega | (simp; done) | (simp; omega) | (simp [*]; done) | (simp [*]; omega)) rfl | with_reducible exact AtN.all (by first | with_reducible assumption | omega | (simp; done) | (simp; omega) | (simp [*]; done) | (simp [*]; omega)) | with_reducible exact AtN.left (by first | with_reducible assumption | omega | (simp; done) | (simp; omega) | (simp [*]; done) | (simp [*]; omega)) | with_reducible exact AtN.one (by first | assumption | simp [*]) | exact AtN.nil | apply AtN.take | apply AtN.skip)); done)) | (apply Cells.ofD; (repeat (first | with_reducible exact mem_head | apply mem_tail)); done) | (apply Cells.ofF; (focus ((repeat (first | with_reducible exact mem_head | apply mem_tail)); done)); ((repeat (first | with_reducible exact AtN.nil | with_reducible apply AtN.take | with_reducible apply AtN.skip | with_reducible exact AtN.idxD (by first | with_reducible assumption | omega | (simp; done) | (simp; omega) | (simp [*]; done) | (simp [*]; omega)) | with_reducible exact AtN.idxL (by first | with_reducible assumption | omega | (simp; done) | (simp; omega) | (simp [*]; done) | (simp [*]; omega)) | with_reducible apply AtN.tail 0 (by first | with_reducible assumption | omega | (simp; done) | (simp; omega) | (simp [*]; done) | (simp [*]; omega)) rfl | with_reducible apply AtN.tail 1 (by first | with_reducible assumption | omega | (simp; done) | (simp; omega) | (simp [*]; done) | (simp [*]; omega)) rfl | with_reducible apply AtN.tail 2 (by first | with_reducible assumption | omega | (simp; done) | (simp; omega) | (simp [*]; done) | (simp [*]; omega)) rfl | with_reducible apply AtN.tail 3 (by first | with_reducible assumption | omega | (simp; done) | (simp; omega) | (simp [*]; done) | (simp [*]; omega)) rfl | with_reducible apply AtN.tail 4 (by first | with_reducible assumption | omega | (simp; done) | (simp; omega) | (simp [*]; done) | (simp [*]; omega)) rfl | with_reducible exact AtN.all (by first | with_reducible assumption | omega | (simp; done) | (simp; omega) | (simp [*]; done) | (simp [*]; omega)) | with_reducible exact AtN.left (by first | with_reducible assumption | omega | (simp; done) | (simp; omega) | (simp [*]; done) | (simp [*]; omega)) | with_reducible exact AtN.one (by first | assumption | simp [*]) | exact AtN.nil | apply AtN.take | apply AtN.skip)); done)) | (apply Cells.ofDs; (focus ((repeat (first | with_reducible exact mem_head | apply mem_tail)); done)); ((repeat (first | with_reducible exact AtN.nil | with_reducible apply AtN.take | with_reducible apply AtN.skip | with_reducible exact AtN.idxD (by first | with_reducible assumption | omega | (simp; done) | (simp; omega) | (simp [*]; done) | (simp [*]; omega)) | with_reducible exact AtN.idxL (by first | with_reducible assumption | omega | (simp; done) | (simp; omega) | (simp [*]; done) | (simp [*]; omega)) | with_reducible apply AtN.tail 0 (by first | with_reducible assumption | omega | (simp; done) | (simp; omega) | (simp [*]; done) | (simp [*]; omega)) rfl | with_reducible apply AtN.tail 1 (by first | with_reducible assumption | omega | (simp; done) | (simp; omega) | (simp [*]; done) | (simp [*]; omega)) rfl | with_reducible apply AtN.tail 2 (by first | with_reducible assumption | omega | (simp; done) | (simp; omega) | (simp [*]; done) | (simp [*]; omega)) rfl | with_reducible apply AtN.tail 3 (by first | with_reducible assumption | omega | (simp; done) | (simp; omega) | (simp [*]; done) | (simp [*]; omega)) rfl | with_reducible apply AtN.tail 4 (by first | with_reducible assumption | omega | (simp; done) | (simp; omega) | (simp [*]; done) | (simp [*]; omega)) rfl | with_reducible exact AtN.all (by first | with_reducible assumption | omega | (simp; done) | (simp; omega) | (simp [*]; done) | (simp [*]; omega)) | with_reducible exact AtN.left (by first | with_reducible assumption | omega | (simp; done) | (simp; omega) | (simp [*]; done) | (simp [*]; omega)) | with_reducible exact AtN.one (by first | assumption | simp [*]) | exact AtN.nil | apply AtN.take | apply AtN.skip)); done)) | (apply Cells.ofRsl1; (focus ((repeat (first | with_reducible exact mem_head | apply mem_tail)); done)); (focus (with_reducible assumption)); rfl) | (apply Cells.ofRsl; (focus ((repeat (first | with_reducible exact mem_head | apply mem_tail)); done)); (first | assumption | exact map_get (by assumption) | (simp [*]; done))) | (apply Cells.ofOwn1; (focus ((repeat (first | with_reducible exact mem_head | apply mem_tail)); done)); (focus (with_reducible assumption)); rfl) | (apply Cells.ofOwn; (focus ((repeat (first | with_reducible exact mem_head | apply mem_tail)); done)); (first | assumption | exact map_get (by assumption) | (simp [*]; done))) | (apply Cells.ofRslA; (focus ((repeat (first | with_reducible exact mem_head | apply mem_tail)); done)); (focus (first | assumption | exact map_get (by assumption) | (simp [*]; done))); ((repeat (first | with_reducible exact AtN.nil | with_reducible apply AtN.take | with_reducible apply AtN.skip | with_reducible exact AtN.idxD (by first | with_reducible assumption | omega | (simp; done) | (simp; omega) | (simp [*]; done) | (simp [*]; omega)) | with_reducible exact AtN.idxL (by first | with_reducible assumption | omega | (simp; done) | (simp; omega) | (simp [*]; done) | (simp [*]; omega)) | with_reducible apply AtN.tail 0 (by first | with_reducible assumption | omega | (simp; done) | (simp; omega) | (simp [*]; done) | (simp [*]; omega)) rfl | with_reducible apply AtN.tail 1 (by first | with_reducible assumption | omega | (simp; done) | (simp; omega) | (simp [*]; done) | (simp [*]; omega)) rfl | with_reducible apply AtN.tail 2 (by first | with_reducible assumption | omega | (simp; done) | (simp; omega) | (simp [*]; done) | (simp [*]; omega)) rfl | with_reducible apply AtN.tail 3 (by first | with_reducible assumption | omega | (simp; done) | (simp; omega) | (simp [*]; done) | (simp [*]; omega)) rfl | with_reducible apply AtN.tail 4 (by first | with_reducible assumption | omega | (simp; done) | (simp; omega) | (simp [*]; done) | (simp [*]; omega)) rfl | with_reducible exact AtN.all (by first | with_reducible assumption | omega | (simp; done) | (simp; omega) | (simp [*]; done) | (simp [*]; omega)) | with_reducible exact AtN.left (by first | with_reducible assumption | omega | (simp; done) | (simp; omega) | (simp [*]; done) | (simp [*]; omega)) | with_reducible exact AtN.one (by first | assumption | simp [*]) | exact AtN.nil | apply AtN.take | apply AtN.skip)); done)) | (apply Cells.ofOwnA; (focus ((repeat (first | with_reducible exact mem_head | apply mem_tail)); done)); (focus (first | assumption | exact map_get (by assumption) | (simp [*]; done))); ((repeat (first | with_reducible exact AtN.nil | with_reducible apply AtN.take | with_reducible apply AtN.skip | with_reducible exact AtN.idxD (by first | with_reducible assumption | omega | (simp; done) | (simp; omega) | (simp [*]; done) | (simp [*]; omega)) | with_reducible exact AtN.idxL (by first | with_reducible assumption | omega | (simp; done) | (simp; omega) | (simp [*]; done) | (simp [*]; omega)) | with_reducible apply AtN.tail 0 (by first | with_reducible assumption | omega | (simp; done) | (simp; omega) | (simp [*]; done) | (simp [*]; omega)) rfl | with_reducible apply AtN.tail 1 (by first | with_reducible assumption | omega | (simp; done) | (simp; omega) | (simp [*]; done) | (simp [*]; omega)) rfl | with_reducible apply AtN.tail 2 (by first | with_reducible assumption | omega | (simp; done) | (simp; omega) | (simp [*]; done) | (simp [*]; omega)) rfl | with_reducible apply AtN.tail 3 (by first | with_reducible assumption | omega | (simp; done) | (simp; omega) | (simp [*]; done) | (simp [*]; omega)) rfl | with_reducible apply AtN.tail 4 (by first | with_reducible assumption | omega | (simp; done) | (simp; omega) | (simp [*]; done) | (simp [*]; omega)) rfl | with_reducible exact AtN.all (by first | with_reducible assumption | omega | (simp; done) | (simp; omega) | (simp [*]; done) | (simp [*]; omega)) | with_reducible exact AtN.left (by first | with_reducible assumption | omega | (simp; done) | (simp; omega) | (simp [*]; done) | (simp [*]; omega)) | with_reducible exact AtN.one (by first | assumption | simp [*]) | exact AtN.nil | apply AtN.take | apply AtN.skip)); done))) : p := h
theorem qN {p : Prop} (h : p := by first | (with_reducible apply CellsN.ofMall; (focus ((repeat (first | with_reducible exact mem_head | apply mem_tail)); done)); (first | rfl | assumption)) | (apply CellsN.ofM; (focus ((repeat (first | with_reducible exact mem_head | apply mem_tail)); done)); ((repeat (first | with_reducible exact AtN.nil | with_reducible apply AtN.take | with_reducible apply AtN.skip | with_reducible exact AtN.idxD (by first | with_reducible assumption | omega | (simp; done) | (simp; omega) | (simp [*]; done) | (simp [*]; omega)) | with_reducible exact AtN.idxL (by first | with_reducible assumption | omega | (simp; done) | (simp; omega) | (simp [*]; done) | (simp [*]; omega)) | with_reducible apply AtN.tail 0 (by first | with_reducible assumption | omega | (simp; done) | (simp; omega) | (simp [*]; done) | (simp [*]; omega)) rfl | with_reducible apply AtN.tail 1 (by first | with_reducible assumption | omega | (simp; done) | (simp; omega) | (simp [*]; done) | (simp [*]; omega)) rfl | with_reducible apply AtN.tail 2 (by first | with_reducible assumption | omega | (simp; done) | (simp; omega) | (simp [*]; done) | (simp [*]; omega)) rfl | with_reducible apply AtN.tail 3 (by first | with_reducible assumption | omega | (simp; done) | (simp; omega) | (simp [*]; done) | (simp [*]; omega)) rfl | with_reducible apply AtN.tail 4 (by first | with_reducible assumption | omega | (simp; done) | (simp; omega) | (simp [*]; done) | (simp [*]; omega)) rfl | with_reducible exact AtN.all (by first | with_reducible assumption | omega | (simp; done) | (simp; omega) | (simp [*]; done) | (simp [*]; omega)) | with_reducible exact AtN.left (by first | with_reducible assumption | omega | (simp; done) | (simp; omega) | (simp [*]; done) | (simp [*]; omega)) | with_reducible exact AtN.one (by first | assumption | simp [*]) | exact AtN.nil | apply AtN.take | apply AtN.skip)); done)) | (apply CellsN.ofD; (focus ((repeat (first | with_reducible exact mem_head | apply mem_tail)); done)); rfl) | (apply CellsN.ofF; (focus ((repeat (first | with_reducible exact mem_head | apply mem_tail)); done)); ((repeat (first | with_reducible exact AtN.nil | with_reducible apply AtN.take | with_reducible apply AtN.skip | with_reducible exact AtN.idxD (by first | with_reducible assumption | omega | (simp; done) | (simp; omega) | (simp [*]; done) | (simp [*]; omega)) | with_reducible exact AtN.idxL (by first | with_reducible assumption | omega | (simp; done) | (simp; omega) | (simp [*]; done) | (simp [*]; omega)) | with_reducible apply AtN.tail 0 (by first | with_reducible assumption | omega | (simp; done) | (simp; omega) | (simp [*]; done) | (simp [*]; omega)) rfl | with_reducible apply AtN.tail 1 (by first | with_reducible assumption | omega | (simp; done) | (simp; omega) | (simp [*]; done) | (simp [*]; omega)) rfl | with_reducible apply AtN.tail 2 (by first | with_reducible assumption | omega | (simp; done) | (simp; omega) | (simp [*]; done) | (simp [*]; omega)) rfl | with_reducible apply AtN.tail 3 (by first | with_reducible assumption | omega | (simp; done) | (simp; omega) | (simp [*]; done) | (simp [*]; omega)) rfl | with_reducible apply AtN.tail 4 (by first | with_reducible assumption | omega | (simp; done) | (simp; omega) | (simp [*]; done) | (simp [*]; omega)) rfl | with_reducible exact AtN.all (by first | with_reducible assumption | omega | (simp; done) | (simp; omega) | (simp [*]; done) | (simp [*]; omega)) | with_reducible exact AtN.left (by first | with_reducible assumption | omega | (simp; done) | (simp; omega) | (simp [*]; done) | (simp [*]; omega)) | with_reducible exact AtN.one (by first | assumption | simp [*]) | exact AtN.nil | apply AtN.take | apply AtN.skip)); done)) | (apply CellsN.ofDs; (focus ((repeat (first | with_reducible exact mem_head | apply mem_tail)); done)); ((repeat (first | with_reducible exact AtN.nil | with_reducible apply AtN.take | with_reducible apply AtN.skip | with_reducible exact AtN.idxD (by first | with_reducible assumption | omega | (simp; done) | (simp; omega) | (simp [*]; done) | (simp [*]; omega)) | with_reducible exact AtN.idxL (by first | with_reducible assumption | omega | (simp; done) | (simp; omega) | (simp [*]; done) | (simp [*]; omega)) | with_reducible apply AtN.tail 0 (by first | with_reducible assumption | omega | (simp; done) | (simp; omega) | (simp [*]; done) | (simp [*]; omega)) rfl | with_reducible apply AtN.tail 1 (by first | with_reducible assumption | omega | (simp; done) | (simp; omega) | (simp [*]; done) | (simp [*]; omega)) rfl | with_reducible apply AtN.tail 2 (by first | with_reducible assumption | omega | (simp; done) | (simp; omega) | (simp [*]; done) | (simp [*]; omega)) rfl | with_reducible apply AtN.tail 3 (by first | with_reducible assumption | omega | (simp; done) | (simp; omega) | (simp [*]; done) | (simp [*]; omega)) rfl | with_reducible apply AtN.tail 4 (by first | with_reducible assumption | omega | (simp; done) | (simp; omega) | (simp [*]; done) | (simp [*]; omega)) rfl | with_reducible exact AtN.all (by first | with_reducible assumption | omega | (simp; done) | (simp; omega) | (simp [*]; done) | (simp [*]; omega)) | with_reducible exact AtN.left (by first | with_reducible assumption | omega | (simp; done) | (simp; omega) | (simp [*]; done) | (simp [*]; omega)) | with_reducible exact AtN.one (by first | assumption | simp [*]) | exact AtN.nil | apply AtN.take | apply AtN.skip)); done)) | (apply CellsN.ofRsl; (focus ((repeat (first | with_reducible exact mem_head | apply mem_tail)); done)); (focus (first | assumption | exact map_get (by assumption) | (simp [*]; done))); rfl) | (apply CellsN.ofOwn; (focus ((repeat (first | with_reducible exact mem_head | apply mem_tail)); done)); (focus (first | assumption | exact map_get (by assumption) | (simp [*]; done))); rfl) | (apply CellsN.ofRslA; (focus ((repeat (first | with_reducible exact mem_head | apply mem_tail)); done)); (focus (first | assumption | exact map_get (by assumption) | (simp [*]; done))); ((repeat (first | with_reducible exact AtN.nil | with_reducible apply AtN.take | with_reducible apply AtN.skip | with_reducible exact AtN.idxD (by first | with_reducible assumption | omega | (simp; done) | (simp; omega) | (simp [*]; done) | (simp [*]; omega)) | with_reducible exact AtN.idxL (by first | with_reducible assumption | omega | (simp; done) | (simp; omega) | (simp [*]; done) | (simp [*]; omega)) | with_reducible apply AtN.tail 0 (by first | with_reducible assumption | omega | (simp; done) | (simp; omega) | (simp [*]; done) | (simp [*]; omega)) rfl | with_reducible apply AtN.tail 1 (by first | with_reducible assumption | omega | (simp; done) | (simp; omega) | (simp [*]; done) | (simp [*]; omega)) rfl | with_reducible apply AtN.tail 2 (by first | with_reducible assumption | omega | (simp; done) | (simp; omega) | (simp [*]; done) | (simp [*]; omega)) rfl | with_reducible apply AtN.tail 3 (by first | with_reducible assumption | omega | (simp; done) | (simp; omega) | (simp [*]; done) | (simp [*]; omega)) rfl | with_reducible apply AtN.tail 4 (by first | with_reducible assumption | omega | (simp; done) | (simp; omega) | (simp [*]; done) | (simp [*]; omega)) rfl | with_reducible exact AtN.all (by first | with_reducible assumption | omega | (simp; done) | (simp; omega) | (simp [*]; done) | (simp [*]; omega)) | with_reducible exact AtN.left (by first | with_reducible assumption | omega | (simp; done) | (simp; omega) | (simp [*]; done) | (simp [*]; omega)) | with_reducible exact AtN.one (by first | assumption | simp [*]) | exact AtN.nil | apply AtN.take | apply AtN.skip)); done)) | (apply CellsN.ofOwnA; (focus ((repeat (first | with_reducible exact mem_head | apply mem_tail)); done)); (focus (first | assumption | exact map_get (by assumption) | (simp [*]; done))); ((repeat (first | with_reducible exact AtN.nil | with_reducible apply AtN.take | with_reducible apply AtN.skip | with_reducible exact AtN.idxD (by first | with_reducible assumption | omega | (simp; done) | (simp; omega) | (simp [*]; done) | (simp [*]; omega)) | with_reducible exact AtN.idxL (by first | with_reducible assumption | omega | (simp; done) | (simp; omega) | (simp [*]; done) | (simp [*]; omega)) | with_reducible apply AtN.tail 0 (by first | with_reducible assumption | omega | (simp; done) | (simp; omega) | (simp [*]; done) | (simp [*]; omega)) rfl | with_reducible apply AtN.tail 1 (by first | with_reducible assumption | omega | (simp; done) | (simp; omega) | (simp [*]; done) | (simp [*]; omega)) rfl | with_reducible apply AtN.tail 2 (by first | with_reducible assumption | omega | (simp; done) | (simp; omega) | (simp [*]; done) | (simp [*]; omega)) rfl | with_reducible apply AtN.tail 3 (by first | with_reducible assumption | omega | (simp; done) | (simp; omega) | (simp [*]; done) | (simp [*]; omega)) rfl | with_reducible apply AtN.tail 4 (by first | with_reducible assumption | omega | (simp; done) | (simp; omega) | (simp [*]; done) | (simp [*]; omega)) rfl | with_reducible exact AtN.all (by first | with_reducible assumption | omega | (simp; done) | (simp; omega) | (simp [*]; done) | (simp [*]; omega)) | with_reducible exact AtN.left (by first | with_reducible assumption | omega | (simp; done) | (simp; omega) | (simp [*]; done) | (simp [*]; omega)) | with_reducible exact AtN.one (by first | assumption | simp [*]) | exact AtN.nil | apply AtN.take | apply AtN.skip)); done))) : p := h
theorem qW {p : Prop} (h : p := by first | with_reducible exact SetAt.whole (by first | with_reducible assumption | omega | (simp; done) | (simp; omega) | (simp [*]; done) | (simp [*]; omega)) | (repeat (first | with_reducible exact SetAt.here | with_reducible exact SetAt.none | with_reducible apply SetAt.more | with_reducible apply SetAt.there | with_reducible exact SetAt.idx rfl (by first | with_reducible assumption | omega | (simp; done) | (simp; omega) | (simp [*]; done) | (simp [*]; omega)) | with_reducible exact SetAt.idxL rfl (by first | with_reducible assumption | omega | (simp; done) | (simp; omega) | (simp [*]; done) | (simp [*]; omega)) | with_reducible apply SetAt.tail 0 (by first | with_reducible assumption | omega | (simp; done) | (simp; omega) | (simp [*]; done) | (simp [*]; omega)) rfl | with_reducible apply SetAt.tail 1 (by first | with_reducible assumption | omega | (simp; done) | (simp; omega) | (simp [*]; done) | (simp [*]; omega)) rfl | with_reducible apply SetAt.tail 2 (by first | with_reducible assumption | omega | (simp; done) | (simp; omega) | (simp [*]; done) | (simp [*]; omega)) rfl | with_reducible apply SetAt.tail 3 (by first | with_reducible assumption | omega | (simp; done) | (simp; omega) | (simp [*]; done) | (simp [*]; omega)) rfl | with_reducible apply SetAt.tail 4 (by first | with_reducible assumption | omega | (simp; done) | (simp; omega) | (simp [*]; done) | (simp [*]; omega)) rfl | exact SetAt.here | exact SetAt.none | apply SetAt.more | apply SetAt.there)) <;> fail | exact SetAt.whole rfl) : p := h
end Cv
namespace Cv
open Go
section
variable {P : Program} {σ : World} {n : Nat} {G : Act → World → Prop} {Q : Post} {K : Env} {D M N : List Asn} {m : Option (List Asn × List Asn)} {ops : Array Oper} {rest : List Oper} {d : Nat} {ty : TypeId} {pos : String} {aft : Array Edge}
/-! ## storing into a slice that is one's own -/
theorem rowsAt_set {sz off i : Nat} {rows : List (List Value)} {r : List Value} {cs : Array Value} (H : RowsAt sz rows cs off) (hs : ∀ r ∈ rows, r.length = sz) (hr : r.length = sz) (hi : i < rows.length) (hsz : off + rows.length * sz ≤ cs.size) {cs' : List Value} (h : SetAt cs.toList (off + i * sz) r cs') :
    RowsAt sz (rows.set i r) cs'.toArray off := by
  intro i' j r' v h1 h2
  obtain ⟨hl, rfl⟩ := h
  rw [List.getElem?_set] at h1
  simp only [List.getElem?_toArray]
  by_cases e : i = i'
  · subst e
    rw [if_pos rfl, if_pos hi] at h1
    cases h1
    have hj : j < r.length := (List.getElem?_eq_some_iff.1 h2).1
    rw [List.append_assoc, List.getElem?_append_right (by simp at hl ⊢; omega)]
    rw [List.length_take, Nat.min_eq_left (by simp at hl ⊢; omega), show off + i * sz + j - (off + i * sz) = j by omega, List.getElem?_append_left hj]
    exact h2
  · rw [if_neg e] at h1
    have h3 := H i' j r' v h1 h2
    have hj : j < sz := by rw [← hs r' (List.mem_of_getElem? h1)]; exact (List.getElem?_eq_some_iff.1 h2).1
    have hi' : i' < rows.length := (List.getElem?_eq_some_iff.1 h1).1
    have e3 : cs.toList[off + i' * sz + j]? = some v := by simpa using h3
    rcases Nat.lt_or_ge i' i with hlt | hge
    · have : (i' + 1) * sz ≤ i * sz := Nat.mul_le_mul_right _ hlt
      rw [Nat.add_mul, Nat.one_mul] at this
      rw [List.append_assoc, List.getElem?_append_left (by simp at hl ⊢; omega), List.getElem?_take_of_lt (by omega)]
      exact e3
    · have : (i + 1) * sz ≤ i' * sz := Nat.mul_le_mul_right _ (by omega)
      rw [Nat.add_mul, Nat.one_mul] at this
      rw [List.getElem?_append_right (by simp at hl ⊢; omega)]
      simp only [List.length_append, List.length_take, List.getElem?_drop]
      rw [Nat.min_eq_left (by simp at hl ⊢; omega), hr, show off + i * sz + sz + (off + i' * sz + j - (off + i * sz + sz)) = off + i' * sz + j by omega]
      exact e3
theorem sat_ownSet {w : World} {sz b o len cap i : Nat} {e : TypeId} {rows : List (List Value)} {r : List Value} (ss : Sat σ D (own sz e (some ⟨b, o, none⟩) len cap rows :: N) w) (hr : r.length = sz) (hi : i < len) :
    ∃ cs cs' : List Value, w.heap[b]? = some (.cells cs.toArray e (0, 0)) ∧ SetAt cs (o + i * sz) r cs' ∧ Sat σ D (own sz e (some ⟨b, o, none⟩) len cap (rows.set i r) :: N) (setB w b (.cells cs'.toArray e (0, 0))) := by
  obtain ⟨z, k, h1, h2, h3, h4, ⟨g1, g2, l1, l2, dj, H, hN⟩⟩ := ss.heap
  obtain ⟨e1, e2, e3, e4⟩ := H
  rcases e4 with ⟨e4, _⟩ | ⟨b', o', cs, e4, e5, e6, e7⟩
  · cases e4
  injection e4 with e4; injection e4 with e8 e9
  subst e8; subst e9
  have hb : w.heap[b]? = some (.cells cs e (0, 0)) := h2 _ _ (l1 _ _ e5)
  have hle : len * sz ≤ cap * sz := Nat.mul_le_mul_right _ e2
  have hle2 : (i + 1) * sz ≤ len * sz := Nat.mul_le_mul_right _ hi
  rw [Nat.add_mul, Nat.one_mul] at hle2
  have hset : SetAt cs.toList (o + i * sz) r (cs.toList.take (o + i * sz) ++ r ++ cs.toList.drop (o + i * sz + r.length)) := ⟨by simp; omega, rfl⟩
  refine ⟨cs.toList, _, by simpa using hb, hset, ?_⟩
  have hlen : (cs.toList.take (o + i * sz) ++ r ++ cs.toList.drop (o + i * sz + r.length)).length = cs.size := by simp; omega
  have s2 : Sat σ D (pt b (.cells cs e (0, 0)) :: N) w := ⟨ss.os, ss.tape, ss.output, z, k, h1, h2, h3, h4, g1, g2, l1, l2, dj, e5, hN⟩
  refine (s2.setB (o' := .cells (cs.toList.take (o + i * sz) ++ r ++ cs.toList.drop (o + i * sz + r.length)).toArray e (0, 0)) Upd.here).ent (Ent.imp fun h hp => ?_)
  refine ⟨by simpa using e1, e2, fun r' hr' => ?_, .inr ⟨b, o, _, rfl, hp, by rw [List.size_toArray, hlen]; exact e6, ?_⟩⟩
  · rcases List.mem_or_eq_of_mem_set hr' with h | h
    · exact e3 _ h
    · rw [h]; exact hr
  · exact rowsAt_set e7 e3 hr (by omega) (by rw [e1]; omega) hset
theorem L.storeOA {t e : TypeId} {x y : Operand} {b o len cap sz : Nat} (i : Nat) {rows : List (List Value)} {vs : List Value} {off : Nat} (hS : Ag P t sz) (hx : ev K x = some (.pointer (some ⟨b, off, none⟩))) (ho : off = o + i * sz) (hy : ev K y = some (.agg vs.toArray)) (hk : vs.length = sz) (h1 : ∀ u ∈ vs, u.oneCell' = true)
    (hM : Pull (own sz e (some ⟨b, o, none⟩) len cap rows) M N) (hi : i < len) (next : TL none P σ n ops Q rest K D (own sz e (some ⟨b, o, none⟩) len cap (rows.set i vs) :: N)) : TL none P σ n ops Q (⟨none, .store t x y, ty, pos, aft, none⟩ :: rest) K D M :=
  L.eff (fun a w s ss => by
    subst ho
    obtain ⟨cs, cs', hb, hset, hs⟩ := sat_ownSet (i := i) (r := vs) (ss.ent hM) hk hi
    have hr := run_storeAt (P := P) (t := t) (fun w => (hS w).2) (v := .agg vs.toArray) rfl hk h1 hb hset
    refine ⟨_, ?_, hs⟩
    have ex : a.eval x = _ := s.eval hx
    have ey : a.eval y = _ := s.eval hy
    simp only [execOp, ex, ey]
    simp [hr]) next
/-! ## function values -/
@[reducible] def fnV (f : FuncId) (caps : List Value) : Value := .func (.func f) #[] caps.toArray
theorem L.makeFunc {f : FuncId} {xs : List Operand} {caps : List Value} (hd : Nat.blt d n = true) (hx : evs K xs caps) (next : TL m P σ n ops Q rest ((d, fnV f caps) :: K) D M) :
    TL m P σ n ops Q (⟨some d, .makeFunc (.func f) #[] xs.toArray, ty, pos, aft, none⟩ :: rest) K D M :=
  L.quiet hd (fun a w s ss => by
    have h2 : xs.map a.eval = caps := s.evals hx
    simp [execOp, Instr.makeFunc, h2, fnV]) next
theorem callV_run {f : FuncId} {y : Operand} {xs : List Operand} {ats : Array TypeId} {args caps : List Value} {g : Option (Nat × Bool)} {dst : Option Nat} {D0 M0 : List Asn} {R : Value → List Asn → List Asn → Prop} {a : Act} {w : World} (s : Slots σ n K a) (hy : ev K y = some (fnV f caps)) (hx : evs K xs args) (hS : Spec P f (args ++ caps) D0 M0 R) :
    (execOp a.eval ⟨dst, .call { callee := .value y, args := xs.toArray, argTypes := ats }, ty, pos, aft, g⟩).run P w = .ok (.enter f (args ++ caps).toArray) w := by
  have h1 := hS.fn (args ++ caps).toArray w
  have h2 : xs.map a.eval = args := s.evals hx
  have h3 : a.eval y = _ := s.eval hy
  simp only [execOp, resolve, Deferred.ofValue, h3, fnV, bind, pure, Sem.bind, invoke, List.map_toArray, h2, Array.empty_append, List.append_toArray]
  exact h1
theorem L.callV {f : FuncId} {y : Operand} {xs : List Operand} {ats : Array TypeId} {args caps : List Value} {D0 M0 F : List Asn} {R : Value → List Asn → List Asn → Prop} (hd : Nat.blt d n = true) (hy : ev K y = some (fnV f caps)) (hx : evs K xs args) (hD : SubD D0 D) (hM : Sel M0 M F)
    (hS : Spec P f (args ++ caps) D0 M0 R) (next : ∀ v D' M', R v D' M' → TL none P σ n ops Q rest ((d, v) :: K) (D' ++ D) (M' ++ F)) :
    TL none P σ n ops Q (⟨some d, .call { callee := .value y, args := xs.toArray, argTypes := ats }, ty, pos, aft, none⟩ :: rest) K D M :=
  L.op rfl (fun _ _ _ _ c hc => by cases hc) fun a w s t K' hK' => by
    unfold Oper.wp
    rw [callV_run s hy hx hS]
    refine (hS.run σ D F w ((t.facts (SubD.append hD (.refl _))).ent hM)).mono ?_
    rintro e w' ⟨v, D', M', rfl, hR, hs⟩
    exact hK' _ _ (next v D' M' hR _ _ (s.put v hd) hs)
theorem L.callVF {f : FuncId} {y : Operand} {xs : List Operand} {ats : Array TypeId} {args caps : List Value} {D0 M0 F : List Asn} {R : Value → List Asn → List Asn → Prop} {v : Value} (hd : Nat.blt d n = true) (hy : ev K y = some (fnV f caps)) (hx : evs K xs args) (hD : SubD D0 D) (hM : Sel M0 M F)
    (hS : Spec P f (args ++ caps) D0 M0 R) (hR : ∀ u D' M', R u D' M' → u = v ∧ ∃ M2, AppL M' F M2 ∧ Ent M2 M) (next : TL m P σ n ops Q rest ((d, v) :: K) D M) :
    TL m P σ n ops Q (⟨some d, .call { callee := .value y, args := xs.toArray, argTypes := ats }, ty, pos, aft, none⟩ :: rest) K D M := by
  have hR' : ∀ u D' M', R u D' M' → u = v ∧ Ent (M' ++ F) M := fun u D' M' h => by obtain ⟨e, _, rfl, k⟩ := hR u D' M' h; exact ⟨e, k⟩
  cases m with
  | none =>
    refine L.callV hd hy hx hD hM hS fun u D' M' hu => ?_
    obtain ⟨rfl, e⟩ := hR' u D' M' hu
    exact fun a w s t => next a w s ((t.facts (fun φ h => List.mem_append.2 (.inr h))).ent e)
  | some p =>
    refine fun hp a s => ?_
    have hw : Region.wanted ⟨some d, .call { callee := .value y, args := xs.toArray, argTypes := ats }, ty, pos, aft, none⟩ (yielded ops a.tmps) = true := rfl
    unfold wpQuiet
    rw [hw, if_pos rfl]
    refine ⟨v, fun w t => ?_, next hp _ (s.put v hd)⟩
    unfold Oper.quietAt
    rw [callV_run s hy hx hS]
    refine ⟨rfl, (hS.run σ D F w (((hp.2.2 w t).facts (SubD.append hD (.refl _))).ent hM)).mono ?_⟩
    rintro e w' ⟨u, D', M', rfl, hu, hs⟩
    obtain ⟨rfl, e⟩ := hR' u D' M' hu
    obtain ⟨h1, rfl, _⟩ := hp
    exact ⟨rfl, (hs.facts (fun φ h => List.mem_append.2 (.inr (h1 φ h)))).ent e⟩
theorem Spec.all {f : FuncId} {args : List Value} {M0 : List Asn} {v : Value} (h : Spec P f args [] M0 (fun u D' M' => u = v ∧ D' = [] ∧ M' = M0)) : Spec P f args [] [all M0] (fun u D' M' => u = v ∧ D' = [] ∧ M' = [all M0]) where
  fn := h.fn
  run σ D M w t := (h.run σ D M w (t.ent Ent.unfold)).mono (by
    rintro e w' ⟨u, D', M', he, ⟨rfl, rfl, rfl⟩, hs⟩
    exact ⟨u, [], [_], he, ⟨rfl, rfl, rfl⟩, hs.ent Ent.fold⟩)
theorem T.ownNe {sz len cap : Nat} {e : TypeId} {a : Option Addr} {rows : List (List Value)} (hm : own sz e a len cap rows ∈ M) (hne : 0 < len) (next : ∀ b o, a = some ⟨b, o, none⟩ → T σ n G K D M) : T σ n G K D M :=
  T.ownLen hm (fun h _ => T.ownAddr hm (fun e => by rw [e] at h; simp at h; omega) next)
theorem L.effV {op : Op} {v : Value} {D' M' : List Asn}
    (h : ∀ a w, Slots σ n K a → Sat σ D M w → ∃ w', (execOp a.eval ⟨none, op, ty, pos, aft, none⟩).run P w = .ok (.value v) w' ∧ Sat σ D' M' w')
    (next : TL none P σ n ops Q rest K D' M') : TL none P σ n ops Q (⟨none, op, ty, pos, aft, none⟩ :: rest) K D M :=
  L.op rfl (fun a w s t => let ⟨_, hr, _⟩ := h a w s t; calm_of hr (fun _ h => by cases h)) fun a w s t K' hK' => by
    obtain ⟨w', hr, hs⟩ := h a w s t
    unfold Oper.wp
    rw [hr]
    exact hK' _ _ (next _ _ (s.put' _) hs)
end
/-! ## clear of a part, nil slices -/
end Cv
namespace Cv
open Go
section
variable {σ : World} {n : Nat} {G : Act → World → Prop} {K : Env} {D M N : List Asn}
end
end Cv
namespace Cv
open Go
section
variable {P : Program} {σ : World} {n : Nat} {Q : Post} {K : Env} {D M N : List Asn} {m : Option (List Asn × List Asn)} {ops : Array Oper} {l rest : List Oper} {d : Nat} {ty : TypeId} {pos : String} {aft : Array Edge}
theorem L.unfold {A : Asn} (L : List Asn) (hM : Pull A M N) (e : A = all L) {X : List Asn} (hX : AppL L N X) (next : TL none P σ n ops Q l K D X) : TL none P σ n ops Q l K D M := T.unfold L hM e hX next
theorem L.ownLen {a : Option Addr} {len cap sz : Nat} {e : TypeId} {rows : List (List Value)} (hm : own sz e a len cap rows ∈ M) (next : rows.length = len → len ≤ cap → TL none P σ n ops Q l K D M) : TL none P σ n ops Q l K D M := T.ownLen hm next
theorem L.convU8 {x : Operand} {src dst : TypeId} {b : UInt8} {s : TypeDesc} (hd : Nat.blt d n = true) (hS : P.underlying src = some s) (hU : P.underlying dst = some (.int .i64)) (hx : ev K x = some (Y b)) (next : ∀ kk : Int, 0 ≤ kk → kk ≤ 255 → TL m P σ n ops Q rest ((d, .int .i64 kk) :: K) D M) :
    TL m P σ n ops Q (⟨some d, .convert src dst x, ty, pos, aft, none⟩ :: rest) K D M := by
  have hb : (b.toNat : Int) < 256 := by have := b.toNat_lt; omega
  exact L.convN (k' := .u8) (z := (b.toNat : Int)) hd hS hU hx (by omega) (next _ (by omega) (by omega))
end
end Cv
namespace Cv
open Go
section
variable {P : Program} {σ : World} {n : Nat} {Q : Post} {K : Env} {D M N : List Asn} {m : Option (List Asn × List Asn)} {ops : Array Oper} {l rest : List Oper} {d : Nat}
end
end Cv
namespace Cv
open Go
section
variable {P : Program} {σ : World} {n : Nat} {Q : Post} {K : Env} {D M N : List Asn} {m : Option (List Asn × List Asn)} {ops : Array Oper} {l rest : List Oper} {d : Nat} {ty : TypeId} {pos : String} {aft : Array Edge}
end
end Cv
