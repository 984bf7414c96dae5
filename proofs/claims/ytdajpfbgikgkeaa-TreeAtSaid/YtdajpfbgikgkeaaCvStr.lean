/-
  My own library for walks, a text of it (CvStr): separation logic over the kit's Calls; no statement of this seat stands here.
-/
import Derived.Test.YtdajpfbgikgkeaaCvWord
import Derived.Test.YtdajpfbgikgkeaaCvSl
import Derived.Laws.BytesString
set_option linter.unusedVariables false
set_option linter.unusedSimpArgs false
set_option linter.unusedSectionVars false
namespace Cv
open Go

/-- a string -/
def S (l : List UInt8) : Value := .string ⟨l.toArray⟩
/-- the rows of a byte slice -/
@[reducible] def yr (b : UInt8) : List Value := [Y b]

section
variable {P : Program} {σ : World} {n : Nat} {Q : Post} {K : Env} {D M : List Asn} {m : Option (List Asn × List Asn)} {ops : Array Oper} {rest : List Oper} {d : Nat} {ty : TypeId} {pos : String} {aft : Array Edge}
variable {x y : Operand} {t t' src dst : TypeId}
/-! ### conversions between integers -/
theorem L.convI {k k' : IntKind} {z : Int} {s : TypeDesc} (hd : Nat.blt d n = true) (hS : P.underlying src = some s) (hU : P.underlying dst = some (.int k)) (hx : ev K x = some (.int k' z)) (next : TL m P σ n ops Q rest ((d, .int k (k.wrap z)) :: K) D M) :
    TL m P σ n ops Q (⟨some d, .convert src dst x, ty, pos, aft, none⟩ :: rest) K D M :=
  L.pureOp hd (fun ρ w ss => by
    have h1 := ss hx
    simp [execOp, h1, convert, run_underlying hS, run_underlying hU, Conv.intToInt]) next
theorem L.convYW {b : UInt8} {s : TypeDesc} (hd : Nat.blt d n = true) (hS : P.underlying src = some s) (hU : P.underlying dst = some (.int .u32)) (hx : ev K x = some (Y b)) (next : TL m P σ n ops Q rest ((d, W (BitVec.ofNat 32 b.toNat)) :: K) D M) :
    TL m P σ n ops Q (⟨some d, .convert src dst x, ty, pos, aft, none⟩ :: rest) K D M :=
  L.convI hd hS hU hx (by
    rw [wrap_u32]
    rw [show BitVec.ofInt 32 (b.toNat : Int) = BitVec.ofNat 32 b.toNat from BitVec.ofInt_natCast ..]; exact next)
theorem L.convWY {a : BitVec 32} {s : TypeDesc} (hd : Nat.blt d n = true) (hS : P.underlying src = some s) (hU : P.underlying dst = some (.int .u8)) (hx : ev K x = some (W a)) (next : TL m P σ n ops Q rest ((d, Y (UInt8.ofNat a.toNat)) :: K) D M) :
    TL m P σ n ops Q (⟨some d, .convert src dst x, ty, pos, aft, none⟩ :: rest) K D M :=
  L.convI hd hS hU hx (by
    have e : IntKind.u8.wrap (a.toNat : Int) = ((UInt8.ofNat a.toNat).toNat : Int) := by
      rw [wrap_u8]; simp only [UInt8.toNat_ofNat']; omega
    rw [e]; exact next)
theorem L.convIY {k' : IntKind} {z : Int} {s : TypeDesc} (hd : Nat.blt d n = true) (hS : P.underlying src = some s) (hU : P.underlying dst = some (.int .u8)) (hx : ev K x = some (.int k' z)) (next : TL m P σ n ops Q rest ((d, Y (UInt8.ofNat (z % 256).toNat)) :: K) D M) :
    TL m P σ n ops Q (⟨some d, .convert src dst x, ty, pos, aft, none⟩ :: rest) K D M :=
  L.convI hd hS hU hx (by rw [wrap_u8]; exact next)
theorem L.convIW {k' : IntKind} {z : Int} {s : TypeDesc} (hd : Nat.blt d n = true) (hS : P.underlying src = some s) (hU : P.underlying dst = some (.int .u32)) (hx : ev K x = some (.int k' z)) (next : TL m P σ n ops Q rest ((d, W (BitVec.ofInt 32 z)) :: K) D M) :
    TL m P σ n ops Q (⟨some d, .convert src dst x, ty, pos, aft, none⟩ :: rest) K D M :=
  L.convI hd hS hU hx (by rw [wrap_u32]; exact next)
theorem L.negN {z : Int} (hd : Nat.blt d n = true) (hx : ev K x = some (.int .i64 z)) (hz : -9223372036854775807 ≤ z ∧ z ≤ 9223372036854775807) (next : TL m P σ n ops Q rest ((d, .int .i64 (-z)) :: K) D M) :
    TL m P σ n ops Q (⟨some d, .unOp .neg t x, ty, pos, aft, none⟩ :: rest) K D M :=
  L.pureOp hd (fun ρ w ss => by
    have h1 := ss hx
    have h2 : IntKind.i64.wrap (0 - z) = -z := by rw [Int.zero_sub]; exact wrap_i64 (by omega) (by omega)
    simp only [execOp, h1, Op.unary, Op.intArith, h2]
    rfl) next
/-! ### strings -/
theorem L.lenStr {l : List UInt8} (hd : Nat.blt d n = true) (hU : P.underlying t = some .string) (hx : ev K x = some (S l)) (next : TL m P σ n ops Q rest ((d, .int .i64 l.length) :: K) D M) :
    TL m P σ n ops Q (⟨some d, .call { callee := .builtin .len, args := #[x], argTypes := #[t] }, ty, pos, aft, none⟩ :: rest) K D M :=
  L.pureOp hd (fun ρ w s => by
    have h1 := s hx
    simp [execOp, resolve, h1, S, invoke, builtin, Builtin.len_, run_underlying hU, goInt, go_sem]) next
theorem L.addS {l l' : List UInt8} (hd : Nat.blt d n = true) (hx : ev K x = some (S l)) (hy : ev K y = some (S l')) (hb : ((l.length + l'.length : Nat) : Int) ≤ 9223372036854775807) (next : TL m P σ n ops Q rest ((d, S (l ++ l')) :: K) D M) :
    TL m P σ n ops Q (⟨some d, .binOp .add t x y t', ty, pos, aft, none⟩ :: rest) K D M :=
  L.pureOp hd (fun ρ w s => by
    have h1 := s hx
    have h2 := s hy
    have h3 : ¬ (((ByteArray.mk l.toArray).size + (ByteArray.mk l'.toArray).size : Nat) : Int) > IntKind.i64.max := by
      show ¬ ((l.toArray.size + l'.toArray.size : Nat) : Int) > 9223372036854775807
      simp only [List.size_toArray]; omega
    have h4 : ByteArray.mk l.toArray ++ ByteArray.mk l'.toArray = ByteArray.mk (l ++ l').toArray := by
      apply ByteArray.ext
      simp
    simp only [execOp, h1, h2, S, eqGuard, binOp, Op.stringOp, if_neg h3, h4]
    rfl) next
theorem L.indexS {l : List UInt8} {i : Nat} {k : IntKind} {iv : Int} {b : UInt8} (hd : Nat.blt d n = true) (hU : P.underlying t = some .string) (hx : ev K x = some (S l)) (hy : ev K y = some (.int k iv)) (hi : iv = (i : Int)) (hb : l[i]? = some b) (next : TL m P σ n ops Q rest ((d, Y b) :: K) D M) :
    TL m P σ n ops Q (⟨some d, .index t x y, ty, pos, aft, none⟩ :: rest) K D M :=
  L.pureOp hd (fun ρ w s => by
    have h1 := s hx
    have h2 := s hy
    subst hi
    have h3 : (ByteArray.mk l.toArray)[i]? = some b := by
      obtain ⟨h, e⟩ := List.getElem?_eq_some_iff.1 hb
      rw [getElem?_pos (ByteArray.mk l.toArray) i (by show i < l.toArray.size; simpa using h)]
      exact congrArg some e
    simp [execOp, h1, h2, S, Instr.index, run_underlying hU, asIntOf, h3]
    rfl) next
theorem L.sliceS {l : List UInt8} {lo hi : Option Operand} {a b : Nat} (hd : Nat.blt d n = true) (hU : P.underlying t = some .string) (hx : ev K x = some (S l))
    (ha : match lo with | none => a = 0 | some o => ∃ k, ev K o = some (.int k (a : Int))) (hb : match hi with | none => b = l.length | some o => ∃ k, ev K o = some (.int k (b : Int))) (h1 : a ≤ b) (h2 : b ≤ l.length)
    (next : TL m P σ n ops Q rest ((d, S ((l.take b).drop a)) :: K) D M) :
    TL m P σ n ops Q (⟨some d, .slice t x lo hi none, ty, pos, aft, none⟩ :: rest) K D M :=
  L.pureOp hd (fun ρ w s => by
    have e1 := s hx
    have e2 : (ByteArray.mk l.toArray).extract a b = ByteArray.mk ((l.take b).drop a).toArray := by
      apply ByteArray.ext
      apply Array.ext'
      simp [ByteArray.data_extract, List.extract_eq_take_drop, List.drop_take]
    have e3 : (ByteArray.mk l.toArray).size = l.length := by show l.toArray.size = _; simp
    cases lo with
    | none =>
      simp only at ha; subst ha
      cases hi with
      | none => 
        simp only at hb; subst hb
        simp [execOp, e1, S, Instr.sliceAt, Instr.slice, Instr.sliceBounds, run_underlying hU, e3, e2]
      | some o =>
        obtain ⟨k, e4⟩ := hb
        have e5 := s e4
        simp [execOp, e1, S, e5, Instr.sliceAt, Instr.slice, Instr.sliceBounds, Instr.sliceBound, asIntOf, run_underlying hU, e3, e2, h2]
    | some o' =>
      obtain ⟨k', e6⟩ := ha
      have e7 := s e6
      cases hi with
      | none =>
        simp only at hb; subst hb
        simp [execOp, e1, S, e7, Instr.sliceAt, Instr.slice, Instr.sliceBounds, Instr.sliceBound, asIntOf, run_underlying hU, e3, h1]
        simpa using e2
      | some o =>
        obtain ⟨k, e4⟩ := hb
        have e5 := s e4
        simp [execOp, e1, S, e5, e7, Instr.sliceAt, Instr.slice, Instr.sliceBounds, Instr.sliceBound, asIntOf, run_underlying hU, e3, h1, h2]
        simpa using e2) next
theorem str_eq {l l' : List UInt8} : ((ByteArray.mk l.toArray).toList == (ByteArray.mk l'.toArray).toList) = decide (l = l') := by
  simp only [ByteArray.toList_eq]
  by_cases e : l = l'
  · subst e; simp
  · simp [e]
theorem L.eqS {l l' : List UInt8} (hd : Nat.blt d n = true) (hx : ev K x = some (S l)) (hy : ev K y = some (S l')) (next : TL m P σ n ops Q rest ((d, .bool (decide (l = l'))) :: K) D M) :
    TL m P σ n ops Q (⟨some d, .binOp .eql t x y t', ty, pos, aft, none⟩ :: rest) K D M :=
  L.pureOp hd (fun ρ w s => by
    have h1 := s hx
    have h2 := s hy
    simp only [execOp, h1, h2, S, eqGuard_at_string, binOp, Op.stringOp, str_eq]
    rfl) next
theorem L.neS {l l' : List UInt8} (hd : Nat.blt d n = true) (hx : ev K x = some (S l)) (hy : ev K y = some (S l')) (next : TL m P σ n ops Q rest ((d, .bool (!decide (l = l'))) :: K) D M) :
    TL m P σ n ops Q (⟨some d, .binOp .neq t x y t', ty, pos, aft, none⟩ :: rest) K D M :=
  L.pureOp hd (fun ρ w s => by
    have h1 := s hx
    have h2 := s hy
    simp only [execOp, h1, h2, S, eqGuard_at_string, binOp, Op.stringOp, str_eq]
    rfl) next
def bless (l l' : List UInt8) : Bool := Op.bytesLess l l'
theorem L.ltS {l l' : List UInt8} (hd : Nat.blt d n = true) (hx : ev K x = some (S l)) (hy : ev K y = some (S l')) (next : TL m P σ n ops Q rest ((d, .bool (bless l l')) :: K) D M) :
    TL m P σ n ops Q (⟨some d, .binOp .lss t x y t', ty, pos, aft, none⟩ :: rest) K D M :=
  L.pureOp hd (fun ρ w s => by
    have h1 := s hx
    have h2 := s hy
    simp only [execOp, h1, h2, S, eqGuard_at_string, binOp, Op.stringOp, ByteArray.toList_eq]
    rfl) next
theorem L.geS {l l' : List UInt8} (hd : Nat.blt d n = true) (hx : ev K x = some (S l)) (hy : ev K y = some (S l')) (next : TL m P σ n ops Q rest ((d, .bool (!bless l l')) :: K) D M) :
    TL m P σ n ops Q (⟨some d, .binOp .geq t x y t', ty, pos, aft, none⟩ :: rest) K D M :=
  L.pureOp hd (fun ρ w s => by
    have h1 := s hx
    have h2 := s hy
    simp only [execOp, h1, h2, S, eqGuard_at_string, binOp, Op.stringOp, str_eq]
    simp only [ByteArray.toList_eq]
    rfl) next
theorem L.leS {l l' : List UInt8} (hd : Nat.blt d n = true) (hx : ev K x = some (S l)) (hy : ev K y = some (S l')) (next : TL m P σ n ops Q rest ((d, .bool (bless l l' || decide (l = l'))) :: K) D M) :
    TL m P σ n ops Q (⟨some d, .binOp .leq t x y t', ty, pos, aft, none⟩ :: rest) K D M :=
  L.pureOp hd (fun ρ w s => by
    have h1 := s hx
    have h2 := s hy
    simp only [execOp, h1, h2, S, eqGuard_at_string, binOp, Op.stringOp, str_eq]
    simp only [ByteArray.toList_eq]
    rfl) next
theorem L.gtS {l l' : List UInt8} (hd : Nat.blt d n = true) (hx : ev K x = some (S l)) (hy : ev K y = some (S l')) (next : TL m P σ n ops Q rest ((d, .bool (!(bless l l' || decide (l = l')))) :: K) D M) :
    TL m P σ n ops Q (⟨some d, .binOp .gtr t x y t', ty, pos, aft, none⟩ :: rest) K D M :=
  L.pureOp hd (fun ρ w s => by
    have h1 := s hx
    have h2 := s hy
    simp only [execOp, h1, h2, S, eqGuard_at_string, binOp, Op.stringOp, str_eq]
    simp only [ByteArray.toList_eq]
    rfl) next
/-! ### bytes to string -/
theorem foldl_push : ∀ (l : List UInt8) (s : ByteArray), (l.map (fun b => (b.toNat : Int))).foldl (fun r n => r.push (UInt8.ofNat n.toNat)) s = ⟨(s.data.toList ++ l).toArray⟩
  | [], s => by simp
  | b :: l, s => by
    rw [List.map_cons, List.foldl_cons, foldl_push l]
    congr 1
    simp
theorem L.bytesStr {a : Option Addr} {l : List UInt8} {e : TypeId} {len cap : Nat} (hd : Nat.blt d n = true) (hs : P.underlying src = some (.slice e)) (he : P.underlying e = some (.int .u8)) (hU : P.underlying dst = some .string) (hx : ev K x = some (.slice a len cap))
    (hm : rsl 1 a len cap (l.map yr) ∈ D) (next : TL m P σ n ops Q rest ((d, S l) :: K) D M) :
    TL m P σ n ops Q (⟨some d, .convert src dst x, ty, pos, aft, none⟩ :: rest) K D M :=
  L.quiet hd (fun ρ w s ss => by
    have h1 := s.eval hx
    obtain ⟨y', l', H⟩ := ss.fact hm
    obtain ⟨q1, q2, q3, q4⟩ := H
    rw [List.length_map] at q1
    have main : (Conv.bytesToString (.slice a len cap)).run P w = .ok (S l) w := by
      cases a with
      | none =>
        have : l = [] := by
          rcases q4 with e | ⟨b, o, c, t, m, e, _⟩
          · simpa using e
          · cases e
        subst this
        rfl
      | some p =>
        have hl : (loadCells p len).run P w = .ok ((l.map (fun b => (b.toNat : Int))).map (Value.int .u8)).toArray w := by
          have e1 : ((l.map (fun b => (b.toNat : Int))).map (Value.int .u8)) = l.map Y := by simp [Y]
          rw [e1, ← q1, show l.length = (l.map Y).length from by simp]
          refine run_loadCells_list (P := P) w p _ (fun j v e => ?_)
          rcases q4 with e' | ⟨b, o, c, t, m, e1, e2, e3⟩
          · have : l = [] := by simpa using e'
            subst this; simp at e
          · injection e1 with e1; subst e1
            rw [add_lit, cell_of (l' _ _ e2)]
            rw [List.getElem?_map] at e
            cases hj : l[j]? with
            | none => rw [hj] at e; cases e
            | some z =>
              rw [hj] at e; injection e with e; subst e
              have := e3 j 0 (yr z) (Y z) (by rw [List.getElem?_map, hj]; rfl) rfl
              simpa using this
        rw [run_bytesToString w p len cap _ hl, foldl_push]
        rfl
    simp only [execOp, h1, run_convert_bytes_string w src dst e a len cap hs he hU]
    rw [Sem.run_bind, run_convert_bytes_string w src dst e a len cap hs he hU, main]
    rfl) next
end
end Cv
