/-
  My own library for walks, a text of it (CvExt): separation logic over the kit's Calls; no statement of this seat stands here.
-/
import Derived.Test.YtdajpfbgikgkeaaCvNext
import Derived.Lib.Bytealg
import Derived.Laws.Externs
set_option linter.unusedVariables false
set_option linter.unusedSimpArgs false
set_option linter.unusedSectionVars false
namespace Cv
open Go
/-! ## functions without a text: comparing bytes -/
abbrev cmpB (a b : List UInt8) : Int := Go.Lib.compareBytes a b
theorem cmpB_self : ∀ (a : List UInt8), cmpB a a = 0
  | [] => rfl
  | x :: a => by
    have h : ¬ x < x := UInt8.lt_irrefl x
    simp only [cmpB, Go.Lib.compareBytes, h, if_false]; exact cmpB_self a
theorem u8_tri {x y : UInt8} (h1 : ¬ x < y) (h2 : ¬ y < x) : x = y := by
  apply UInt8.toNat_inj.1
  rw [UInt8.lt_iff_toNat_lt] at h1 h2
  omega
theorem cmpB_eq : ∀ {a b : List UInt8}, cmpB a b = 0 → a = b
  | [], [], _ => rfl
  | [], _ :: _, h => by simp [cmpB, Go.Lib.compareBytes] at h
  | _ :: _, [], h => by simp [cmpB, Go.Lib.compareBytes] at h
  | x :: a, y :: b, h => by
    simp only [cmpB, Go.Lib.compareBytes] at h
    by_cases h1 : x < y
    · rw [if_pos h1] at h; cases h
    · by_cases h2 : y < x
      · rw [if_neg h1, if_pos h2] at h; cases h
      · rw [if_neg h1, if_neg h2] at h
        rw [u8_tri h1 h2, cmpB_eq h]
theorem cmpB_neg : ∀ (a b : List UInt8), cmpB b a = -cmpB a b
  | [], [] => rfl
  | [], _ :: _ => rfl
  | _ :: _, [] => rfl
  | x :: a, y :: b => by
    simp only [cmpB, Go.Lib.compareBytes]
    by_cases h1 : x < y
    · have h2 : ¬ y < x := by rw [UInt8.lt_iff_toNat_lt] at h1 ⊢; omega
      rw [if_pos h1, if_neg h2, if_pos h1]; rfl
    · by_cases h2 : y < x
      · rw [if_pos h2, if_neg h1, if_pos h2]
      · rw [if_neg h1, if_neg h2, if_neg h2, if_neg h1]; exact cmpB_neg a b
theorem cmpB_vals : ∀ (a b : List UInt8), cmpB a b = -1 ∨ cmpB a b = 0 ∨ cmpB a b = 1
  | [], [] => .inr (.inl rfl)
  | [], _ :: _ => .inl rfl
  | _ :: _, [] => .inr (.inr rfl)
  | x :: a, y :: b => by
    simp only [cmpB, Go.Lib.compareBytes]
    by_cases h1 : x < y
    · rw [if_pos h1]; exact .inl rfl
    · by_cases h2 : y < x
      · rw [if_neg h1, if_pos h2]; exact .inr (.inr rfl)
      · rw [if_neg h1, if_neg h2]; exact cmpB_vals a b
theorem cmpB_trans : ∀ {a b c : List UInt8}, cmpB a b < 0 → cmpB b c < 0 → cmpB a c < 0
  | [], b, [], h, k => by
    cases b with
    | nil => exact h
    | cons y b => simp [cmpB, Go.Lib.compareBytes] at k
  | [], _, _ :: _, _, _ => by simp [cmpB, Go.Lib.compareBytes]
  | _ :: _, [], _, h, _ => by simp [cmpB, Go.Lib.compareBytes] at h
  | _ :: _, _ :: _, [], _, k => by simp [cmpB, Go.Lib.compareBytes] at k
  | x :: a, y :: b, z :: c, h, k => by
    simp only [cmpB, Go.Lib.compareBytes] at h k ⊢
    simp only [UInt8.lt_iff_toNat_lt] at h k ⊢
    by_cases h1 : x.toNat < y.toNat
    · by_cases k1 : y.toNat < z.toNat
      · rw [if_pos (by omega)]; decide
      · by_cases k2 : z.toNat < y.toNat
        · rw [if_neg k1, if_pos k2] at k; exact absurd k (by decide)
        · rw [if_pos (by omega)]; decide
    · by_cases h2 : y.toNat < x.toNat
      · rw [if_neg h1, if_pos h2] at h; exact absurd h (by decide)
      · rw [if_neg h1, if_neg h2] at h
        by_cases k1 : y.toNat < z.toNat
        · rw [if_pos (by omega)]; decide
        · by_cases k2 : z.toNat < y.toNat
          · rw [if_neg k1, if_pos k2] at k; exact absurd k (by decide)
          · rw [if_neg k1, if_neg k2] at k
            rw [if_neg (by omega), if_neg (by omega)]
            exact cmpB_trans h k
/-- less, as the strings' '<' has it -/
theorem cmpB_lt : ∀ {a b : List UInt8}, cmpB a b < 0 ↔ a < b
  | [], [] => by simp [cmpB, Go.Lib.compareBytes]
  | [], _ :: _ => by simp [cmpB, Go.Lib.compareBytes]
  | _ :: _, [] => by simp [cmpB, Go.Lib.compareBytes]
  | x :: a, y :: b => by
    rw [List.cons_lt_cons_iff, ← cmpB_lt (a := a) (b := b)]
    simp only [cmpB, Go.Lib.compareBytes]
    by_cases h1 : x < y
    · rw [if_pos h1]; simp [h1]
    · by_cases h2 : y < x
      · have hne : x ≠ y := by rintro rfl; exact h1 h2
        rw [if_neg h1, if_pos h2]; simp [h1, hne]
      · rw [if_neg h1, if_neg h2]
        have := u8_tri h1 h2
        subst this
        simp [h1]
section
variable {P : Program} {σ : World} {n : Nat} {Q : Post} {K : Env} {D M : List Asn} {m : Option (List Asn × List Asn)} {ops : Array Oper} {rest : List Oper} {d : Nat} {ty : TypeId} {pos : String} {aft : Array Edge}
/-- a function without a text -/
def IsX (P : Program) (f : FuncId) (e : Array Value → Sem Value) : Prop := ∀ args w, (callFunc f args).run P w = ((e args).run P w).andThen fun v w' => .ok (.value v) w'
theorem IsX.of {P : Program} {f : FuncId} {fn : Func} {e : Array Value → Sem Value} (hf : P.funcs[f]? = some fn) (hname : (fn.name == "runtime.NumGoroutine") = false) (hb : fn.body.isNone = true) (hn : Extern.findNext fn = none) (he : Extern.find fn = some e) : IsX P f e :=
  fun args w => run_callFunc_extern hf hname hb hn he args w
theorem L.callX {f : FuncId} {e : Array Value → Sem Value} {xs : List Operand} {ats : Array TypeId} {args : List Value} {v : Value} (hX : IsX P f e) (hd : Nat.blt d n = true) (hx : evs K xs args) (hr : ∀ w, Sat σ D M w → (e args.toArray).run P w = .ok v w)
    (next : TL m P σ n ops Q rest ((d, v) :: K) D M) : TL m P σ n ops Q (⟨some d, .call { callee := .value (.func f), args := xs.toArray, argTypes := ats }, ty, pos, aft, none⟩ :: rest) K D M :=
  L.quiet hd (fun a w s ss => by
    have h1 := hX args.toArray w
    have h2 : xs.map a.eval = args := s.evals hx
    rw [hr w ss] at h1
    simp only [execOp, resolve, Deferred.ofValue, Act.eval, bind, pure, Sem.bind, invoke, List.map_toArray, h2, Array.empty_append, Array.append_empty]
    exact h1) next
theorem run_loadB {w : World} : ∀ (l : List UInt8) (a : Addr) (acc : ByteArray), (∀ j x, l[j]? = some x → w.cell? (a.add j) = some (Y x)) →
    (Extern.Bytes.loadBytes a l.length acc).run P w = .ok ⟨acc.data ++ l.toArray⟩ w
  | [], a, acc, _ => by simp [Extern.Bytes.loadBytes]
  | x :: l, a, acc, h => by
    have h0 : w.cell? a = some (.int .u8 x.toNat) := by
      have := h 0 x rfl
      simpa [Addr.add, Y] using this
    have ih := run_loadB l (a.add 1) (acc.push x) (fun j y hy => by
      have := h (j + 1) y (by simpa using hy)
      have e : (a.add 1).add j = a.add (j + 1) := by
        unfold Addr.add
        by_cases hj : j = 0
        · subst hj; simp
        · simp [hj]; omega
      rw [e]; exact this)
    simp only [List.length_cons, Extern.Bytes.loadBytes, Sem.run_bind, run_load, h0, Result.andThen]
    have e2 : ((x.toNat : Int).toNat).toUInt8 = x := by simp
    rw [e2, ih]
    congr 1
    apply ByteArray.ext
    simp [ByteArray.push]
theorem run_bytesOf {w : World} {a : Option Addr} {len cap : Nat} {l : List UInt8} (ss : Sat σ D M w) (hm : rsl 1 a len cap (l.map yr) ∈ D) : (Extern.Bytes.bytesOf (.slice a len cap)).run P w = .ok ⟨l.toArray⟩ w := by
  obtain ⟨y', l', q1, q2, q3, q4⟩ := ss.fact hm
  rw [List.length_map] at q1
  cases a with
  | none =>
    have : l = [] := by
      rcases q4 with e | ⟨b, o, c, t, m, e, _⟩
      · simpa using e
      · cases e
    subst this
    rfl
  | some p =>
    have := run_loadB (P := P) (w := w) l p .empty (fun j x e => by
      rcases q4 with e' | ⟨b, o, c, t, m, e1, e2, e3⟩
      · have : l = [] := by simpa using e'
        subst this; simp at e
      · injection e1 with e1; subst e1
        rw [add_lit, cell_of (l' _ _ e2)]
        have := e3 j 0 (yr x) (Y x) (by rw [List.getElem?_map, e]; rfl) rfl
        simpa using this)
    rw [q1] at this
    show (Extern.Bytes.loadBytes p len .empty).run P w = _
    rw [this]; simp
theorem L.cmpSl {f : FuncId} {x y : Operand} {ats : Array TypeId} {a b : Option Addr} {la ca lb cb : Nat} {p q : List UInt8} (hX : IsX P f Extern.BytealgCompare.compare) (hd : Nat.blt d n = true) (hx : evs K [x, y] [.slice a la ca, .slice b lb cb]) (h1 : rsl 1 a la ca (p.map yr) ∈ D) (h2 : rsl 1 b lb cb (q.map yr) ∈ D)
    (next : TL m P σ n ops Q rest ((d, .int .i64 (cmpB p q)) :: K) D M) : TL m P σ n ops Q (⟨some d, .call { callee := .value (.func f), args := [x, y].toArray, argTypes := ats }, ty, pos, aft, none⟩ :: rest) K D M :=
  L.callX hX hd hx (fun w ss => by
    show (do Pure.pure (goInt (Extern.BytealgCompare.cmp (← Extern.Bytes.bytesOf (.slice a la ca)) (← Extern.Bytes.bytesOf (.slice b lb cb)))) : Sem Value).run P w = _
    simp only [Sem.run_bind, Sem.run_pure, run_bytesOf ss h1, run_bytesOf ss h2, Result.andThen]
    rw [Go.Lib.cmp_eq]
    rfl) next
theorem L.cmpStr {f : FuncId} {x y : Operand} {ats : Array TypeId} {p q : List UInt8} (hX : IsX P f Extern.BytealgCompare.compare) (hd : Nat.blt d n = true) (hx : evs K [x, y] [S p, S q])
    (next : TL m P σ n ops Q rest ((d, .int .i64 (cmpB p q)) :: K) D M) : TL m P σ n ops Q (⟨some d, .call { callee := .value (.func f), args := [x, y].toArray, argTypes := ats }, ty, pos, aft, none⟩ :: rest) K D M :=
  L.callX hX hd hx (fun w ss => Go.Lib.run_compareString (P := P) ⟨p.toArray⟩ ⟨q.toArray⟩ w) next
/-- copy of a string's bytes into an own block -/
theorem L.copyStr {td ts e tb : TypeId} {x y : Operand} {b o dl dc k : Nat} {cs cs' : List Value} {l : List UInt8} {M' : List Asn} (hd : Nat.blt d n = true) (hU : P.underlying td = some (.slice e)) (hz : Sz P e 1) (hx : ev K x = some (.slice (some ⟨b, o, none⟩) dl dc)) (hy : ev K y = some (S l))
    (hk : Nat.min l.length dl = k) (hu : Upd (cl b tb cs) (cl b tb cs') M M') (hs : SetAt cs o ((l.take k).map Y) cs')
    (next : TL none P σ n ops Q rest ((d, .int .i64 k) :: K) D M') : TL none P σ n ops Q (⟨some d, .call { callee := .builtin .copy, args := #[x, y], argTypes := #[td, ts] }, ty, pos, aft, none⟩ :: rest) K D M :=
  L.val hd (fun aa w s ss => by
    obtain ⟨O, e1, e2⟩ := hu
    have hb := (ss.ent e1).block (.head _)
    have e3 := hz w
    have h2 := run_storeCells_at P b o tb ((l.take k).map Y) 0 cs.toArray w hb (by simpa using hs.1) (fun u hu => by obtain ⟨z, _, rfl⟩ := List.mem_map.1 hu; rfl)
    simp only [Nat.add_zero] at h2
    refine ⟨_, ?_, ss.setB (o' := .cells cs'.toArray tb (0, 0)) ⟨O, e1, e2⟩⟩
    have ex : aa.eval x = _ := s.eval hx
    have ey : aa.eval y = _ := s.eval hy
    have h3 : Sem.run P (storeCells ⟨b, o, none⟩ ((l.take k).map Y)) w = .ok () (setB w b (.cells cs'.toArray tb (0, 0))) := by
      rw [show (storeCells ⟨b, o, none⟩ ((l.take k).map Y)) = storeCells ⟨b, o, none⟩ ((l.take k).map Y) 0 from rfl, h2, setRow_setB hb, hs.2]
    have h4 : (Builtin.firstCells 1 k (S l)).run P w = .ok ((l.take k).map Y).toArray w := by
      show Sem.run P (Pure.pure _) w = _
      rw [Sem.run_pure]
      congr 1
      apply Array.toList_inj.1
      simp only [ByteArray.data_extract, List.map_take, Array.toList_map, Array.toList_extract]
      simp [Y, Function.comp_def, ← List.map_take]
    have h5 : (Builtin.lenOf (S l)).run P w = .ok l.length w := by
      show Sem.run P (Pure.pure _) w = _
      rw [Sem.run_pure]; rfl
    simp [execOp, resolve, invoke, builtin, ex, ey, Builtin.copy_, run_underlying hU, h5, hk, e3, h4, h3, goInt, -List.map_take]) next
end
end Cv
namespace Cv
open Go
theorem bless_iff : ∀ {a b : List UInt8}, bless a b = true ↔ cmpB a b < 0
  | [], [] => by simp [bless, Op.bytesLess, cmpB, Go.Lib.compareBytes]
  | [], _ :: _ => by simp [bless, Op.bytesLess, cmpB, Go.Lib.compareBytes]
  | _ :: _, [] => by simp [bless, Op.bytesLess, cmpB, Go.Lib.compareBytes]
  | x :: a, y :: b => by
    have ih := bless_iff (a := a) (b := b)
    unfold bless at ih ⊢
    unfold Op.bytesLess
    simp only [cmpB, Go.Lib.compareBytes]
    by_cases h1 : x < y
    · simp [h1]
    · by_cases h2 : y < x
      · have hne : x ≠ y := by rintro rfl; exact h1 h2
        simp [h1, h2, hne]
      · have := u8_tri h1 h2
        subst this
        simp [h1, ih, cmpB]
end Cv
namespace Cv
open Go
theorem T.retTA {P : Program} {σ : World} {n : Nat} {K : Env} {D M : List Asn} {fn : Func} {t u k : Nat} {tt : TypeId} {b off : Nat} {R : Value → List Asn → List Asn → Prop} {D0 M0 D' M' : List Asn} {vs : List Value} {v : Value} (hr : fn.results = #[.tmp u, .cell t tt]) (hS : Ag P tt k) (hx : get K t = some (.pointer (some ⟨b, off, none⟩))) (hc : CellsN σ D M b off k vs) (hv : get K u = some v)
    (hR : R (.tuple #[v, .agg vs.toArray]) D' M') (hD : SubD (D' ++ D0) D) (hM : Ent M (M' ++ M0)) : T σ n (bodyPost P fn (RetPost σ R D0 M0) .ret) K D M :=
  T.ret0 (.inl rfl) (fun a w s ss => by
    obtain ⟨hl, hc⟩ := hc
    obtain ⟨c, t', m, hb, hv'⟩ := hc w ss
    have h1 : (loadCells ⟨b, off, none⟩ vs.length).run P w = .ok vs.toArray w := run_loadCells_list (P := P) w _ vs (fun j v e => by rw [add_lit, cell_of hb]; exact hv' j v e)
    have h2 := (hS w).1
    have h4 := (hS w).2
    have h3 := s.val t _ hx
    have h5 := s.val u _ hv
    rw [Array.getD_eq_getD_getElem?] at h3 h5
    subst hl
    simp [results, hr, h3, h5, asAddr, loadVar, h2, h4, h1, Sem.run]) hR hD hM
end Cv
