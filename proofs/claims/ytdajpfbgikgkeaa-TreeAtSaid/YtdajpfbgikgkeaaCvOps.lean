/-
  My own library for walks, a text of it (CvOps): separation logic over the kit's Calls; no statement of this seat stands here.
-/
import Derived.Test.YtdajpfbgikgkeaaCvWalk
set_option linter.unusedVariables false
set_option linter.unusedSimpArgs false
set_option linter.unusedSectionVars false
namespace Cv
open Go

section
variable {P : Program} {σ : World} {n : Nat} {Q : Post} {K : Env} {D M : List Asn} {m : Option (List Asn × List Asn)} {ops : Array Oper} {rest : List Oper} {d : Nat} {ty : TypeId} {pos : String} {aft : Array Edge}

def Ev (K : Env) (ρ : Operand → Value) : Prop := ∀ {x v}, ev K x = some v → ρ x = v
theorem L.pureOp {op : Op} {v : Value} (hd : Nat.blt d n = true)
    (h : ∀ ρ w, Ev K ρ → (execOp ρ ⟨some d, op, ty, pos, aft, none⟩).run P w = .ok (.value v) w)
    (next : TL m P σ n ops Q rest ((d, v) :: K) D M) : TL m P σ n ops Q (⟨some d, op, ty, pos, aft, none⟩ :: rest) K D M :=
  L.quiet hd (fun a w s _ => h a.eval w (fun e => s.eval e)) next

/-! ### copies, tests -/
theorem L.move {x : Operand} {v : Value} (hd : Nat.blt d n = true) (hx : ev K x = some v) (next : TL m P σ n ops Q rest ((d, v) :: K) D M) :
    TL m P σ n ops Q (⟨some d, .move x, ty, pos, aft, none⟩ :: rest) K D M :=
  L.pureOp hd (fun ρ w s => by simp [execOp, s hx, go_sem]) next
theorem L.assign {x : Operand} {v : Value} (hd : Nat.blt d n = true) (hx : ev K x = some v) (next : TL m P σ n ops Q rest ((d, v) :: K) D M) :
    TL m P σ n ops Q (⟨some d, .assign x, ty, pos, aft, none⟩ :: rest) K D M :=
  L.pureOp hd (fun ρ w s => by simp [execOp, s hx, go_sem]) next
theorem L.pickT {c x y : Operand} {v : Value} (hd : Nat.blt d n = true) (hc : ev K c = some (.bool true)) (hx : ev K x = some v) (next : TL m P σ n ops Q rest ((d, v) :: K) D M) :
    TL m P σ n ops Q (⟨some d, .pick c x y, ty, pos, aft, none⟩ :: rest) K D M :=
  L.pureOp hd (fun ρ w s => by simp [execOp, s hx, s hc, asBool, go_sem]) next
theorem L.pickF {c x y : Operand} {v : Value} (hd : Nat.blt d n = true) (hc : ev K c = some (.bool false)) (hy : ev K y = some v) (next : TL m P σ n ops Q rest ((d, v) :: K) D M) :
    TL m P σ n ops Q (⟨some d, .pick c x y, ty, pos, aft, none⟩ :: rest) K D M :=
  L.pureOp hd (fun ρ w s => by simp [execOp, s hy, s hc, asBool, go_sem]) next
theorem L.notB {x : Operand} {t : TypeId} {b : Bool} (hd : Nat.blt d n = true) (hx : ev K x = some (.bool b)) (next : TL m P σ n ops Q rest ((d, .bool (!b)) :: K) D M) :
    TL m P σ n ops Q (⟨some d, .unOp .not t x, ty, pos, aft, none⟩ :: rest) K D M :=
  L.pureOp hd (fun ρ w s => by simp [execOp, s hx, Op.unary, go_sem]) next
theorem L.extract {x : Operand} {vs : List Value} {v : Value} {i : Nat} (hd : Nat.blt d n = true) (hx : ev K x = some (.tuple vs.toArray)) (hv : vs[i]? = some v) (next : TL m P σ n ops Q rest ((d, v) :: K) D M) :
    TL m P σ n ops Q (⟨some d, .extract x i, ty, pos, aft, none⟩ :: rest) K D M :=
  L.pureOp hd (fun ρ w s => by simp [execOp, s hx, Instr.extract, hv, go_sem]) next
theorem L.nilCheck {x : Operand} {p : Addr} (hd : Nat.blt d n = true) (hx : ev K x = some (.pointer (some p))) (next : TL m P σ n ops Q rest ((d, .pointer (some p)) :: K) D M) :
    TL m P σ n ops Q (⟨some d, .nilCheck x, ty, pos, aft, none⟩ :: rest) K D M :=
  L.pureOp hd (fun ρ w s => by simp [execOp, s hx, go_sem]) next

/-! ### guards -/
theorem yielded_of {a : Act} {j dj : Nat} {b : Bool} (s : Slots n K a) (hj : (ops[j]?).bind (·.dst) = some dj) (hb : get K dj = some (.bool b)) : yielded ops a.tmps j = some b := by
  have h := s.val dj _ hb
  have h2 : a.tmps[dj]? = some (.bool b) := by
    rw [Array.getD_eq_getD_getElem?] at h
    cases e : a.tmps[dj]? with
    | none => rw [e] at h; cases h
    | some v => rw [e] at h; simpa using h
  simp [yielded, hj, h2]
theorem wpQuiet_skip {C : World → Prop} {Qa : Act → Prop} {a : Act} {o : Oper} (hw : Region.wanted o (yielded ops a.tmps) = false) (h : wpQuiet P ops C Qa rest (a.put o.dst undef)) : wpQuiet P ops C Qa (o :: rest) a := by
  unfold wpQuiet
  rw [hw, if_neg (by simp)]
  exact h
theorem L.guardT {o : Oper} {j dj : Nat} {b : Bool} (hg : o.guard = some (j, b)) (hj : (ops[j]?).bind (·.dst) = some dj) (hb : get K dj = some (.bool b))
    (h : TL m P σ n ops Q ({ o with guard := none } :: rest) K D M) : TL m P σ n ops Q (o :: rest) K D M := by
  have e1 : ∀ a : Act, Region.wanted { o with guard := none } (yielded ops a.tmps) = true := fun _ => rfl
  have e2 : ∀ a : Act, Slots n K a → Region.wanted o (yielded ops a.tmps) = true := fun a s => by simp [Region.wanted, hg, yielded_of s hj hb]
  cases m with
  | none =>
    intro a w s t
    have h1 := h a w s t
    simp only [wpList] at h1 ⊢
    rw [e1, if_pos rfl] at h1
    rw [e2 a s, if_pos rfl]
    exact h1
  | some p =>
    refine fun hp a s => ?_
    have h1 := h hp a s
    unfold wpQuiet at h1 ⊢
    rw [e1, if_pos rfl] at h1
    rw [e2 a s, if_pos rfl]
    exact h1
theorem L.guardF {o : Oper} {j dj : Nat} {b c : Bool} (hg : o.guard = some (j, b)) (hdst : o.dst = some d) (hd : Nat.blt d n = true) (hj : (ops[j]?).bind (·.dst) = some dj) (hb : get K dj = some (.bool c)) (hne : c ≠ b)
    (h : TL m P σ n ops Q rest ((d, undef) :: K) D M) : TL m P σ n ops Q (o :: rest) K D M := by
  have e2 : ∀ a : Act, Slots n K a → Region.wanted o (yielded ops a.tmps) = false := fun a s => by simp [Region.wanted, hg, yielded_of s hj hb, hne]
  cases m with
  | none => exact fun a w s t => wpList_skip (e2 a s) (by rw [hdst]; exact h _ _ (s.put _ hd) t)
  | some p =>
    exact fun hp a s => wpQuiet_skip (e2 a s) (by rw [hdst]; exact h hp _ (s.put _ hd))
theorem L.guardG {o : Oper} {j dj : Nat} {b c : Bool} (hg : o.guard = some (j, b)) (hdst : o.dst = none) (hj : (ops[j]?).bind (·.dst) = some dj) (hb : get K dj = some (.bool c)) (hne : c ≠ b)
    (h : TL none P σ n ops Q rest K D M) : TL none P σ n ops Q (o :: rest) K D M := fun a w s t => by
  have e2 : Region.wanted o (yielded ops a.tmps) = false := by simp [Region.wanted, hg, yielded_of s hj hb, hne]
  refine wpList_skip e2 ?_
  rw [hdst]
  exact h _ _ s t
/-- a slot's truth is parted -/
theorem L.part {l : List Oper} {t : Nat} {b : Bool} (hb : get K t = some (.bool b)) (h1 : b = true → TL m P σ n ops Q l ((t, .bool true) :: K) D M) (h2 : b = false → TL m P σ n ops Q l ((t, .bool false) :: K) D M) : TL m P σ n ops Q l K D M := by
  cases b with
  | true => exact L.keep (.cons hb (.refl _)) (h1 rfl)
  | false => exact L.keep (.cons hb (.refl _)) (h2 rfl)
theorem L.known {l : List Oper} {t : Nat} {v u : Value} (hb : get K t = some v) (e : v = u) (h : TL m P σ n ops Q l ((t, u) :: K) D M) : TL m P σ n ops Q l K D M := by
  subst e; exact L.keep (.cons hb (.refl _)) h
theorem T.known {G : Act → World → Prop} {t : Nat} {v u : Value} (hb : get K t = some v) (e : v = u) (h : T σ n G ((t, u) :: K) D M) : T σ n G K D M := by
  subst e; exact T.keep (.cons hb (.refl _)) h

/-! ### integers -/
section ints
variable {x y : Operand} {t t' : TypeId} {k : IntKind} {a b : Int}
theorem L.addI (hd : Nat.blt d n = true) (hx : ev K x = some (.int k a)) (hy : ev K y = some (.int k b)) (next : TL m P σ n ops Q rest ((d, .int k (k.wrap (a + b))) :: K) D M) :
    TL m P σ n ops Q (⟨some d, .binOp .add t x y t', ty, pos, aft, none⟩ :: rest) K D M :=
  L.pureOp hd (fun ρ w s => by simp [execOp, s hx, s hy, Op.intArith, go_sem]) next
theorem L.subI (hd : Nat.blt d n = true) (hx : ev K x = some (.int k a)) (hy : ev K y = some (.int k b)) (next : TL m P σ n ops Q rest ((d, .int k (k.wrap (a - b))) :: K) D M) :
    TL m P σ n ops Q (⟨some d, .binOp .sub t x y t', ty, pos, aft, none⟩ :: rest) K D M :=
  L.pureOp hd (fun ρ w s => by simp [execOp, s hx, s hy, Op.intArith, go_sem]) next
theorem L.mulI (hd : Nat.blt d n = true) (hx : ev K x = some (.int k a)) (hy : ev K y = some (.int k b)) (next : TL m P σ n ops Q rest ((d, .int k (k.wrap (a * b))) :: K) D M) :
    TL m P σ n ops Q (⟨some d, .binOp .mul t x y t', ty, pos, aft, none⟩ :: rest) K D M :=
  L.pureOp hd (fun ρ w s => by simp [execOp, s hx, s hy, Op.intArith, go_sem]) next
theorem wrap_i64 {z : Int} (h1 : -9223372036854775808 ≤ z) (h2 : z ≤ 9223372036854775807) : IntKind.i64.wrap z = z := IntWalk.i64_in _ ⟨h1, h2⟩
theorem L.addN {a b : Int} (hd : Nat.blt d n = true) (hx : ev K x = some (.int .i64 a)) (hy : ev K y = some (.int .i64 b)) (hw : -9223372036854775808 ≤ a + b ∧ a + b ≤ 9223372036854775807) (next : TL m P σ n ops Q rest ((d, .int .i64 (a + b)) :: K) D M) :
    TL m P σ n ops Q (⟨some d, .binOp .add t x y t', ty, pos, aft, none⟩ :: rest) K D M :=
  L.addI hd hx hy (by rw [wrap_i64 hw.1 hw.2]; exact next)
theorem L.subN {a b : Int} (hd : Nat.blt d n = true) (hx : ev K x = some (.int .i64 a)) (hy : ev K y = some (.int .i64 b)) (hw : -9223372036854775808 ≤ a - b ∧ a - b ≤ 9223372036854775807) (next : TL m P σ n ops Q rest ((d, .int .i64 (a - b)) :: K) D M) :
    TL m P σ n ops Q (⟨some d, .binOp .sub t x y t', ty, pos, aft, none⟩ :: rest) K D M :=
  L.subI hd hx hy (by rw [wrap_i64 hw.1 hw.2]; exact next)
theorem L.mulN {a b : Int} (hd : Nat.blt d n = true) (hx : ev K x = some (.int .i64 a)) (hy : ev K y = some (.int .i64 b)) (hw : -9223372036854775808 ≤ a * b ∧ a * b ≤ 9223372036854775807) (next : TL m P σ n ops Q rest ((d, .int .i64 (a * b)) :: K) D M) :
    TL m P σ n ops Q (⟨some d, .binOp .mul t x y t', ty, pos, aft, none⟩ :: rest) K D M :=
  L.mulI hd hx hy (by rw [wrap_i64 hw.1 hw.2]; exact next)
theorem L.quoI (hd : Nat.blt d n = true) (hx : ev K x = some (.int k a)) (hy : ev K y = some (.int k b)) (hb : b ≠ 0) (next : TL m P σ n ops Q rest ((d, .int k (k.wrap (a.tdiv b))) :: K) D M) :
    TL m P σ n ops Q (⟨some d, .binOp .quo t x y t', ty, pos, aft, none⟩ :: rest) K D M :=
  L.pureOp hd (fun ρ w s => by simp [execOp, s hx, s hy, Op.intDiv, hb, go_sem]) next
theorem L.quoN {a b : Int} (hd : Nat.blt d n = true) (hx : ev K x = some (.int .i64 a)) (hy : ev K y = some (.int .i64 b)) (hb : 0 ≤ a ∧ 0 < b ∧ a ≤ 9223372036854775807) (next : TL m P σ n ops Q rest ((d, .int .i64 (a / b)) :: K) D M) :
    TL m P σ n ops Q (⟨some d, .binOp .quo t x y t', ty, pos, aft, none⟩ :: rest) K D M :=
  L.quoI hd hx hy (by omega) (by
    have h1 : a.tdiv b = a / b := Int.tdiv_eq_ediv_of_nonneg hb.1
    have h2 : 0 ≤ a / b := Int.ediv_nonneg hb.1 (by omega)
    have h3 : a / b ≤ a := Int.ediv_le_self _ hb.1
    rw [h1, wrap_i64 (by omega) (by omega)]; exact next)
theorem L.remI (hd : Nat.blt d n = true) (hx : ev K x = some (.int k a)) (hy : ev K y = some (.int k b)) (hb : b ≠ 0) (next : TL m P σ n ops Q rest ((d, .int k (a.tmod b)) :: K) D M) :
    TL m P σ n ops Q (⟨some d, .binOp .rem t x y t', ty, pos, aft, none⟩ :: rest) K D M :=
  L.pureOp hd (fun ρ w s => by simp [execOp, s hx, s hy, Op.intDiv, hb, go_sem]) next
theorem L.remN {a b : Int} (hd : Nat.blt d n = true) (hx : ev K x = some (.int .i64 a)) (hy : ev K y = some (.int .i64 b)) (hb : 0 ≤ a ∧ 0 < b) (next : TL m P σ n ops Q rest ((d, .int .i64 (a % b)) :: K) D M) :
    TL m P σ n ops Q (⟨some d, .binOp .rem t x y t', ty, pos, aft, none⟩ :: rest) K D M :=
  L.remI hd hx hy (by omega) (by rw [Int.tmod_eq_emod_of_nonneg hb.1]; exact next)
def bitsAnd (k : IntKind) (a b : Int) : Int := k.wrap ((BitVec.ofInt k.bits a) &&& (BitVec.ofInt k.bits b)).toNat
def bitsOr (k : IntKind) (a b : Int) : Int := k.wrap ((BitVec.ofInt k.bits a) ||| (BitVec.ofInt k.bits b)).toNat
def bitsXor (k : IntKind) (a b : Int) : Int := k.wrap ((BitVec.ofInt k.bits a) ^^^ (BitVec.ofInt k.bits b)).toNat
theorem L.andI (hd : Nat.blt d n = true) (hx : ev K x = some (.int k a)) (hy : ev K y = some (.int k b)) (next : TL m P σ n ops Q rest ((d, .int k (bitsAnd k a b)) :: K) D M) :
    TL m P σ n ops Q (⟨some d, .binOp .and t x y t', ty, pos, aft, none⟩ :: rest) K D M :=
  L.pureOp hd (fun ρ w s => by simp only [execOp, s hx, s hy, eqGuard_and, binOp_and, Op.intBits]; rfl) next
theorem L.orI (hd : Nat.blt d n = true) (hx : ev K x = some (.int k a)) (hy : ev K y = some (.int k b)) (next : TL m P σ n ops Q rest ((d, .int k (bitsOr k a b)) :: K) D M) :
    TL m P σ n ops Q (⟨some d, .binOp .or t x y t', ty, pos, aft, none⟩ :: rest) K D M :=
  L.pureOp hd (fun ρ w s => by simp only [execOp, s hx, s hy, eqGuard_or, binOp_or, Op.intBits]; rfl) next
theorem L.xorI (hd : Nat.blt d n = true) (hx : ev K x = some (.int k a)) (hy : ev K y = some (.int k b)) (next : TL m P σ n ops Q rest ((d, .int k (bitsXor k a b)) :: K) D M) :
    TL m P σ n ops Q (⟨some d, .binOp .xor t x y t', ty, pos, aft, none⟩ :: rest) K D M :=
  L.pureOp hd (fun ρ w s => by simp only [execOp, s hx, s hy, eqGuard_xor, binOp_xor, Op.intBits]; rfl) next
theorem L.shlI {yk : IntKind} (hd : Nat.blt d n = true) (hx : ev K x = some (.int k a)) (hy : ev K y = some (.int yk b)) (hb : 0 ≤ b) (next : TL m P σ n ops Q rest ((d, .int k (k.wrap (a * 2 ^ (min b.toNat k.bits)))) :: K) D M) :
    TL m P σ n ops Q (⟨some d, .binOp .shl t x y t', ty, pos, aft, none⟩ :: rest) K D M :=
  L.pureOp hd (fun ρ w s => by simp [execOp, s hx, s hy, Op.shift, show ¬ b < 0 from by omega, go_sem]) next
theorem L.shrI {yk : IntKind} (hd : Nat.blt d n = true) (hx : ev K x = some (.int k a)) (hy : ev K y = some (.int yk b)) (hb : 0 ≤ b) (next : TL m P σ n ops Q rest ((d, .int k (a.fdiv (2 ^ (min b.toNat k.bits)))) :: K) D M) :
    TL m P σ n ops Q (⟨some d, .binOp .shr t x y t', ty, pos, aft, none⟩ :: rest) K D M :=
  L.pureOp hd (fun ρ w s => by simp [execOp, s hx, s hy, Op.shift, show ¬ b < 0 from by omega, go_sem]) next
theorem L.eqI (hd : Nat.blt d n = true) (hx : ev K x = some (.int k a)) (hy : ev K y = some (.int k b)) (next : TL m P σ n ops Q rest ((d, .bool (decide (a = b))) :: K) D M) :
    TL m P σ n ops Q (⟨some d, .binOp .eql t x y t', ty, pos, aft, none⟩ :: rest) K D M :=
  L.pureOp hd (fun ρ w s => by simp [execOp, s hx, s hy, go_sem]; rfl) next
theorem L.neI (hd : Nat.blt d n = true) (hx : ev K x = some (.int k a)) (hy : ev K y = some (.int k b)) (next : TL m P σ n ops Q rest ((d, .bool (decide (a ≠ b))) :: K) D M) :
    TL m P σ n ops Q (⟨some d, .binOp .neq t x y t', ty, pos, aft, none⟩ :: rest) K D M :=
  L.pureOp hd (fun ρ w s => by simp [execOp, s hx, s hy, go_sem]; rfl) next
theorem L.ltI (hd : Nat.blt d n = true) (hx : ev K x = some (.int k a)) (hy : ev K y = some (.int k b)) (next : TL m P σ n ops Q rest ((d, .bool (decide (a < b))) :: K) D M) :
    TL m P σ n ops Q (⟨some d, .binOp .lss t x y t', ty, pos, aft, none⟩ :: rest) K D M :=
  L.pureOp hd (fun ρ w s => by simp [execOp, s hx, s hy, go_sem]) next
theorem L.leI (hd : Nat.blt d n = true) (hx : ev K x = some (.int k a)) (hy : ev K y = some (.int k b)) (next : TL m P σ n ops Q rest ((d, .bool (decide (a ≤ b))) :: K) D M) :
    TL m P σ n ops Q (⟨some d, .binOp .leq t x y t', ty, pos, aft, none⟩ :: rest) K D M :=
  L.pureOp hd (fun ρ w s => by simp [execOp, s hx, s hy, go_sem]) next
theorem L.gtI (hd : Nat.blt d n = true) (hx : ev K x = some (.int k a)) (hy : ev K y = some (.int k b)) (next : TL m P σ n ops Q rest ((d, .bool (decide (b < a))) :: K) D M) :
    TL m P σ n ops Q (⟨some d, .binOp .gtr t x y t', ty, pos, aft, none⟩ :: rest) K D M :=
  L.pureOp hd (fun ρ w s => by simp [execOp, s hx, s hy, go_sem]) next
theorem L.geI (hd : Nat.blt d n = true) (hx : ev K x = some (.int k a)) (hy : ev K y = some (.int k b)) (next : TL m P σ n ops Q rest ((d, .bool (decide (b ≤ a))) :: K) D M) :
    TL m P σ n ops Q (⟨some d, .binOp .geq t x y t', ty, pos, aft, none⟩ :: rest) K D M :=
  L.pureOp hd (fun ρ w s => by simp [execOp, s hx, s hy, go_sem]) next
theorem L.maxI {ats : Array TypeId} (hd : Nat.blt d n = true) (hx : ev K x = some (.int k a)) (hy : ev K y = some (.int k b)) (next : TL m P σ n ops Q rest ((d, .int k (max a b)) :: K) D M) :
    TL m P σ n ops Q (⟨some d, .call { callee := .builtin .max, args := #[x, y], argTypes := ats }, ty, pos, aft, none⟩ :: rest) K D M :=
  L.pureOp hd (fun ρ w s => by
    have e : max a b = if b > a then b else a := by split <;> omega
    rw [e]
    simp [execOp, resolve, s hx, s hy, invoke, builtin, Builtin.max_, Builtin.max2, go_sem]) next
theorem L.minI {ats : Array TypeId} (hd : Nat.blt d n = true) (hx : ev K x = some (.int k a)) (hy : ev K y = some (.int k b)) (next : TL m P σ n ops Q rest ((d, .int k (min a b)) :: K) D M) :
    TL m P σ n ops Q (⟨some d, .call { callee := .builtin .min, args := #[x, y], argTypes := ats }, ty, pos, aft, none⟩ :: rest) K D M :=
  L.pureOp hd (fun ρ w s => by
    have e : min a b = if b < a then b else a := by split <;> omega
    rw [e]
    simp [execOp, resolve, s hx, s hy, invoke, builtin, Builtin.min_, Builtin.min2, go_sem]) next
end ints

/-! ### bools, pointers -/
theorem run_equal_bool {t : TypeId} {a b : Bool} (hU : P.underlying t = some .bool) (w : World) : (Op.equal t (.bool a) (.bool b)).run P w = .ok (a == b) w := by
  unfold Op.equal
  rw [show Op.maxDepth = 9999 + 1 from rfl, Op.equalIn]
  simp [run_underlying hU]
theorem run_equal_nil {t e : TypeId} {a : Option Addr} (hU : P.underlying t = some (.pointer e)) (w : World) : (Op.equal t (.pointer a) (.pointer none)).run P w = .ok a.isNone w := by
  unfold Op.equal
  rw [show Op.maxDepth = 9999 + 1 from rfl, Op.equalIn]
  cases a <;> simp [run_underlying hU]
theorem L.eqlB {x y : Operand} {t t' : TypeId} {a b : Bool} (hU : P.underlying t = some .bool) (hd : Nat.blt d n = true) (hx : ev K x = some (.bool a)) (hy : ev K y = some (.bool b)) (next : TL m P σ n ops Q rest ((d, .bool (a == b)) :: K) D M) :
    TL m P σ n ops Q (⟨some d, .binOp .eql t x y t', ty, pos, aft, none⟩ :: rest) K D M :=
  L.pureOp hd (fun ρ w s => by
    have h1 := s hx
    have h2 := s hy
    have h3 := run_equal_bool (a := a) (b := b) hU w
    simp only [execOp, h1, h2, eqGuard_at_bool, binOp]
    simp [h3]) next
theorem L.neqB {x y : Operand} {t t' : TypeId} {a b : Bool} (hU : P.underlying t = some .bool) (hd : Nat.blt d n = true) (hx : ev K x = some (.bool a)) (hy : ev K y = some (.bool b)) (next : TL m P σ n ops Q rest ((d, .bool (!(a == b))) :: K) D M) :
    TL m P σ n ops Q (⟨some d, .binOp .neq t x y t', ty, pos, aft, none⟩ :: rest) K D M :=
  L.pureOp hd (fun ρ w s => by
    have h1 := s hx
    have h2 := s hy
    have h3 := run_equal_bool (a := a) (b := b) hU w
    simp only [execOp, h1, h2, eqGuard_at_bool, binOp]
    simp [h3]) next
/-- a pointer against nil -/
theorem L.eqlPtr {x y : Operand} {t t' e : TypeId} {a : Option Addr} (hd : Nat.blt d n = true) (hU : P.underlying t = some (.pointer e)) (hx : ev K x = some (.pointer a)) (hy : ev K y = some (.pointer none)) (next : TL m P σ n ops Q rest ((d, .bool a.isNone) :: K) D M) :
    TL m P σ n ops Q (⟨some d, .binOp .eql t x y t', ty, pos, aft, none⟩ :: rest) K D M :=
  L.pureOp hd (fun ρ w s => by
    have h1 := s hx
    have h2 := s hy
    have h3 := run_equal_nil (a := a) hU w
    simp only [execOp, h1, h2, eqGuard_at_pointer, binOp]
    simp [h3]) next
theorem L.neqPtr {x y : Operand} {t t' e : TypeId} {a : Option Addr} (hd : Nat.blt d n = true) (hU : P.underlying t = some (.pointer e)) (hx : ev K x = some (.pointer a)) (hy : ev K y = some (.pointer none)) (next : TL m P σ n ops Q rest ((d, .bool (!a.isNone)) :: K) D M) :
    TL m P σ n ops Q (⟨some d, .binOp .neq t x y t', ty, pos, aft, none⟩ :: rest) K D M :=
  L.pureOp hd (fun ρ w s => by
    have h1 := s hx
    have h2 := s hy
    have h3 := run_equal_nil (a := a) hU w
    simp only [execOp, h1, h2, eqGuard_at_pointer, binOp]
    simp [h3]) next
end
end Cv
