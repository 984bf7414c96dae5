/-
  My own library for walks (CvPdq CvIdC CvSeq CvRet3 CvInv): separation logic over the calls of the kit; no statement of this seat stands here.
-/
import Derived.Test.YtncgoodlhmpfcaaGreatCvLe
set_option linter.all false
namespace Cv
open Go
/-! ## pdqsort: plain laws -/
section
variable {α : Type} [Inhabited α]
structure SWO (cf : α → α → Int) : Prop where
  asym : ∀ x y, cf x y < 0 → ¬ cf y x < 0
  ntrans : ∀ x y z, ¬ cf x y < 0 → ¬ cf y z < 0 → ¬ cf x z < 0
structure PI (a b : Nat) (xs ys : List α) : Prop where
  len : ys.length = xs.length
  out : ∀ k, k < a ∨ b ≤ k → gd ys k = gd xs k
  inn : ∀ k, a ≤ k → k < b → ∃ r, a ≤ r ∧ r < b ∧ gd ys k = gd xs r
  perm : ys.Perm xs
theorem PI.refl (a b : Nat) (xs : List α) : PI a b xs xs := ⟨rfl, fun _ _ => rfl, fun k h1 h2 => ⟨k, h1, h2, rfl⟩, .refl _⟩
theorem PI.trans {a b : Nat} {xs ys zs : List α} (h : PI a b xs ys) (k : PI a b ys zs) : PI a b xs zs where
  len := k.len.trans h.len
  out i hi := (k.out i hi).trans (h.out i hi)
  inn i h1 h2 := by
    obtain ⟨r, r1, r2, e⟩ := k.inn i h1 h2
    obtain ⟨s, s1, s2, f⟩ := h.inn r r1 r2
    exact ⟨s, s1, s2, e.trans f⟩
  perm := k.perm.trans h.perm
theorem PI.wide {a b a' b' : Nat} {xs ys : List α} (h : PI a b xs ys) (ha : a' ≤ a) (hb : b ≤ b') : PI a' b' xs ys where
  len := h.len
  out k hk := h.out k (by omega)
  inn k h1 h2 := by
    by_cases e : a ≤ k ∧ k < b
    · obtain ⟨r, r1, r2, f⟩ := h.inn k e.1 e.2
      exact ⟨r, by omega, by omega, f⟩
    · exact ⟨k, h1, h2, h.out k (by omega)⟩
  perm := h.perm
theorem PI.sw {a b i j : Nat} {xs : List α} (hb : b ≤ xs.length) (i1 : a ≤ i) (i2 : i < b) (j1 : a ≤ j) (j2 : j < b) : PI a b xs (sw xs i j) where
  len := by simp [Cv.sw]
  out k hk := by rw [gd_sw (by omega) (by omega), if_neg (by omega), if_neg (by omega)]
  inn k h1 h2 := by
    rw [gd_sw (by omega) (by omega)]
    split
    · exact ⟨i, i1, i2, rfl⟩
    · split
      · exact ⟨j, j1, j2, rfl⟩
      · exact ⟨k, h1, h2, rfl⟩
  perm := sw_perm (by omega) (by omega)
variable {cf : α → α → Int}
def NL (cf : α → α → Int) (zs : List α) (p q : Nat) : Prop := ¬ cf (gd zs q) (gd zs p) < 0
theorem NL.trans (hO : SWO cf) {zs : List α} {p q r : Nat} (h : NL cf zs p q) (k : NL cf zs q r) : NL cf zs p r := hO.ntrans _ _ _ k h
/-! ### inserting -/
def SrtP (cf : α → α → Int) (zs : List α) (a i : Nat) : Prop := ∀ p q, a ≤ p → p < q → q < i → NL cf zs p q
def InB (cf : α → α → Int) (zs : List α) (a i j : Nat) : Prop := (∀ p q, a ≤ p → p < q → q ≤ i → p ≠ j → q ≠ j → NL cf zs p q) ∧ ∀ q, j < q → q ≤ i → NL cf zs j q
theorem SrtP.start {zs : List α} {a i : Nat} (h : SrtP cf zs a i) : InB cf zs a i i := ⟨fun p q h1 h2 h3 h4 h5 => h p q h1 h2 (by omega), fun q h1 h2 => by omega⟩
theorem InB.swap (hO : SWO cf) {zs : List α} {a i j : Nat} (h : InB cf zs a i j) (hi : i < zs.length) (hj : j ≤ i) (h0 : a < j) (hl : cf (gd zs j) (gd zs (j - 1)) < 0) : InB cf (sw zs j (j - 1)) a i (j - 1) := by
  obtain ⟨h1, h2⟩ := h
  have g : ∀ k, gd (sw zs j (j - 1)) k = if k = j - 1 then gd zs j else if k = j then gd zs (j - 1) else gd zs k := fun k => gd_sw (by omega) (by omega)
  refine ⟨fun p q a1 b c d e => ?_, fun q a1 b => ?_⟩
  · unfold NL
    rw [g p, g q, if_neg d, if_neg e]
    by_cases e1 : p = j
    · rw [if_pos e1, if_neg (by omega)]; exact h1 (j - 1) q (by omega) (by omega) c (by omega) (by omega)
    · rw [if_neg e1]
      by_cases e2 : q = j
      · rw [if_pos e2]; exact h1 p (j - 1) a1 (by omega) (by omega) e1 (by omega)
      · rw [if_neg e2]; exact h1 p q a1 b c e1 e2
  · unfold NL
    rw [g (j - 1), g q, if_pos rfl, if_neg (by omega)]
    by_cases e2 : q = j
    · rw [if_pos e2]; exact hO.asym _ _ hl
    · rw [if_neg e2]; exact h2 q (by omega) b
theorem InB.stop (hO : SWO cf) {zs : List α} {a i j : Nat} (h : InB cf zs a i j) (hj : j ≤ i) (ha : a ≤ j) (hl : a < j → NL cf zs (j - 1) j) : SrtP cf zs a (i + 1) := by
  obtain ⟨h1, h2⟩ := h
  intro p q a1 b c
  by_cases e1 : p = j
  · subst e1; exact h2 q b (by omega)
  · by_cases e2 : q = j
    · subst e2
      by_cases e3 : p = q - 1
      · subst e3; exact hl (by omega)
      · exact (h1 p (q - 1) a1 (by omega) (by omega) e1 (by omega)).trans hO (hl (by omega))
    · exact h1 p q a1 b (by omega) e1 e2
theorem SrtP.more (hO : SWO cf) {zs : List α} {a i : Nat} (h : SrtP cf zs a i) (hl : a < i → NL cf zs (i - 1) i) : SrtP cf zs a (i + 1) := by
  intro p q a1 b c
  by_cases e : q = i
  · subst e
    by_cases e2 : p = q - 1
    · subst e2; exact hl (by omega)
    · exact (h p (q - 1) a1 (by omega) (by omega)).trans hO (hl (by omega))
  · exact h p q a1 b (by omega)
theorem SrtP.one {zs : List α} {a : Nat} : SrtP cf zs a (a + 1) := fun p q h1 h2 h3 => by omega
/-! ### heaps -/
/-! ### parting -/
end
end Cv
namespace Cv
open Go
/-! ## names as rows of 32 cells -/
@[reducible] def iC (y : ID32) : List Value := y.1.map Y
theorem iC_len (y : ID32) : (iC y).length = 32 := by rw [List.length_map]; exact y.2
theorem one_iC {y : ID32} : ∀ u ∈ iC y, u.oneCell' = true := fun u hu => by
  obtain ⟨b, _, rfl⟩ := List.mem_map.1 hu; rfl
instance : Inhabited ID32 := ⟨⟨List.replicate 32 0, rfl⟩⟩
theorem one_ids {l : List ID32} : ∀ u ∈ (l.map iC).flatten, u.oneCell' = true := fun u hu => by
  obtain ⟨r, hr, hu⟩ := List.mem_flatten.1 hu
  obtain ⟨x, _, rfl⟩ := List.mem_map.1 hr
  exact one_iC u hu
/-! ### how many bits -/
structure BitsL (n k : Nat) : Prop where
  lt : n < 2 ^ k
  le : n = 0 ∨ 2 ^ k ≤ 2 * n
theorem BitsL.up {n k : Nat} (h : BitsL (n / 256) k) (hn : 256 ≤ n) : BitsL n (8 + k) := by
  obtain ⟨h1, h2⟩ := h
  have e : (2 : Nat) ^ (8 + k) = 256 * 2 ^ k := by rw [Nat.pow_add]
  refine ⟨by rw [e]; omega, .inr ?_⟩
  rw [e]; omega
end Cv
namespace Cv
open Go
/-! ## a string of bytes that one owns -/
theorem L.bytesStrO {P : Program} {σ : World} {n : Nat} {Q : Post} {K : Env} {D M : List Asn} {m : Option (List Asn × List Asn)} {ops : Array Oper} {rest : List Oper} {d : Nat} {ty : TypeId} {pos : String} {aft : Array Edge} {src dst ew : TypeId} {x : Operand} {a : Option Addr} {l : List UInt8} {e : TypeId} {len cap : Nat} (hd : Nat.blt d n = true) (hs : P.underlying src = some (.slice e)) (he : P.underlying e = some (.int .u8)) (hU : P.underlying dst = some .string) (hx : ev K x = some (.slice a len cap))
    (hm : own 1 ew a len cap (l.map yr) ∈ M) (next : TL m P σ n ops Q rest ((d, S l) :: K) D M) :
    TL m P σ n ops Q (⟨some d, .convert src dst x, ty, pos, aft, none⟩ :: rest) K D M :=
  L.quiet hd (fun ρ w s ss => by
    have h1 := s.eval hx
    obtain ⟨y', l', H0⟩ := ss.own hm
    have H := rsl_of_own H0
    obtain ⟨q1, q2, q3, q4⟩ := H
    rw [List.length_map] at q1
    have main : (Conv.bytesToString (.slice a len cap)).run P w = .ok (S l) w := by
      cases a with
      | none =>
        have : l = [] := by
          rcases q4 with e | ⟨b, o, c, t, m, e, _⟩
          · simpa using e
          · cases e
        subst this
        rfl
      | some p =>
        have hl : (loadCells p len).run P w = .ok ((l.map (fun b => (b.toNat : Int))).map (Value.int .u8)).toArray w := by
          have e1 : ((l.map (fun b => (b.toNat : Int))).map (Value.int .u8)) = l.map Y := by simp [Y]
          rw [e1, ← q1, show l.length = (l.map Y).length from by simp]
          refine run_loadCells_list (P := P) w p _ (fun j v e => ?_)
          rcases q4 with e' | ⟨b, o, c, t, m, e1, e2, e3⟩
          · have : l = [] := by simpa using e'
            subst this; simp at e
          · injection e1 with e1; subst e1
            rw [add_lit, cell_of (l' _ _ e2)]
            rw [List.getElem?_map] at e
            cases hj : l[j]? with
            | none => rw [hj] at e; cases e
            | some z =>
              rw [hj] at e; injection e with e; subst e
              have := e3 j 0 (yr z) (Y z) (by rw [List.getElem?_map, hj]; rfl) rfl
              simpa using this
        rw [run_bytesToString w p len cap _ hl, foldl_push]
        rfl
    simp only [execOp, h1, run_convert_bytes_string w src dst e a len cap hs he hU]
    rw [Sem.run_bind, run_convert_bytes_string w src dst e a len cap hs he hU, main]
    rfl) next
end Cv
namespace Cv
open Go
theorem T.retATT {P : Program} {σ : World} {n : Nat} {K : Env} {D M : List Asn} {fn : Func} {t u x k : Nat} {tt : TypeId} {b off : Nat} {R : Value → List Asn → List Asn → Prop} {D0 M0 D' M' : List Asn} {vs : List Value} {v y : Value} (hr : fn.results = #[.cell t tt, .tmp u, .tmp x]) (hS : Ag P tt k) (hx : get K t = some (.pointer (some ⟨b, off, none⟩))) (hc : CellsN (dset σ []) D M b off k vs) (hv : get K u = some v) (hy : get K x = some y)
    (hR : R (.tuple #[.agg vs.toArray, v, y]) D' M') (hD : SubD (D' ++ D0) D) (hM : Ent M (M' ++ M0)) : T (dset σ []) n (bPost P fn (RetPost (dset σ []) R D0 M0) .ret) K D M :=
  T.ret0 (.inl rfl) (fun a w s ss => by
    obtain ⟨hl, hc⟩ := hc
    obtain ⟨c, t', m, hb, hv'⟩ := hc w ss
    have h1 : (loadCells ⟨b, off, none⟩ vs.length).run P w = .ok vs.toArray w := run_loadCells_list (P := P) w _ vs (fun j v e => by rw [add_lit, cell_of hb]; exact hv' j v e)
    have h2 := (hS w).1
    have h4 := (hS w).2
    have h3 := s.val t _ hx
    have h5 := s.val u _ hv
    have h6 := s.val x _ hy
    rw [Array.getD_eq_getD_getElem?] at h3 h5 h6
    subst hl
    simp [results, hr, h3, h5, h6, asAddr, loadVar, h2, h4, h1, Sem.run]) hR hD hM
end Cv
namespace Cv
open Go
/-! ## methods of interface values -/
def Mth (P : Program) (t : TypeId) (v : Value) (name : String) (f : FuncId) (u : Value) : Prop := ∀ w, (method (P.types.size + Made.depth) t v name).run P w = .ok (f, u) w
section
variable {P : Program} {σ : World} {n : Nat} {Q : Post} {K : Env} {D M : List Asn} {m : Option (List Asn × List Asn)} {ops : Array Oper} {rest : List Oper} {d : Nat} {ty : TypeId} {pos : String} {aft : Array Edge}
theorem inv_run {f : FuncId} {recv : Operand} {name : String} {t : TypeId} {rv u : Value} {xs : List Operand} {ats : Array TypeId} {args : List Value} {g : Option (Nat × Bool)} {dst : Option Nat} {a : Act} {w : World} (s : Slots σ n K a) (hr : ev K recv = some (.iface t rv)) (hm : Mth P t rv name f u) (hx : evs K xs args) (hS : IsFn P f) :
    (execOp a.eval ⟨dst, .call { callee := .invoke recv name, args := xs.toArray, argTypes := ats }, ty, pos, aft, g⟩).run P w = .ok (.enter f (u :: args).toArray) w := by
  have h1 := hS (u :: args).toArray w
  have h2 : xs.map a.eval = args := s.evals hx
  have h3 : a.eval recv = .iface t rv := s.eval hr
  have h4 := hm w
  have hp : (program).run P w = .ok P w := rfl
  have e1 : (#[Value.iface t rv] ++ args.toArray).extract 1 (#[Value.iface t rv] ++ args.toArray).size = args.toArray := by
    apply Array.ext'; simp
  have e2 : (#[u] ++ args.toArray) = (u :: args).toArray := by apply Array.ext'; simp
  have e0 : (#[Value.iface t rv] ++ args.toArray)[0]? = some (Value.iface t rv) := by simp
  have e3 : (callMethod (.iface t rv) name args.toArray).run P w = .ok (.enter f (u :: args).toArray) w := by
    unfold callMethod
    simp only [Sem.run_bind, hp, Result.andThen_ok, h4, e2]
    exact h1
  simp only [execOp, resolve, List.map_toArray, h2, h3, Sem.run_bind, Sem.run_pure, Result.andThen_ok, invoke, e0, e1, e3]
theorem L.inv {f : FuncId} {recv : Operand} {name : String} {t : TypeId} {rv u : Value} {xs : List Operand} {ats : Array TypeId} {args : List Value} {D0 M0 F : List Asn} {R : Value → List Asn → List Asn → Prop} (hd : Nat.blt d n = true) (hr : ev K recv = some (.iface t rv)) (hm : Mth P t rv name f u) (hx : evs K xs args) (hD : SubD D0 D) (hM : Sel M0 M F)
    (hS : Spec P f (u :: args) D0 M0 R) (next : ∀ v D' M', R v D' M' → TL none P σ n ops Q rest ((d, v) :: K) (D' ++ D) (M' ++ F)) :
    TL none P σ n ops Q (⟨some d, .call { callee := .invoke recv name, args := xs.toArray, argTypes := ats }, ty, pos, aft, none⟩ :: rest) K D M :=
  L.op rfl (fun _ _ _ _ c hc => by cases hc) fun a w s t K' hK' => by
    unfold Oper.wp
    rw [inv_run s hr hm hx hS.fn]
    refine (hS.run σ D F w ((t.facts (SubD.append hD (.refl _))).ent hM)).mono ?_
    rintro e w' ⟨v, D', M', rfl, hR, hs⟩
    exact hK' _ _ (next v D' M' hR _ _ (s.put v hd) hs)
theorem L.mkIface {x : Operand} {t : TypeId} {v : Value} {s : TypeDesc} (hd : Nat.blt d n = true) (hU : P.underlying t = some s) (hn : ∀ i, s ≠ .interface i) (hx : ev K x = some v) (next : TL m P σ n ops Q rest ((d, .iface t v) :: K) D M) :
    TL m P σ n ops Q (⟨some d, .makeInterface t x, ty, pos, aft, none⟩ :: rest) K D M :=
  L.pureOp hd (fun ρ w s' => by
    have e1 := s' hx
    simp only [execOp, e1, Instr.makeInterface, Sem.run_bind, run_underlying hU, Result.andThen_ok]
    cases s with
    | interface i => exact absurd rfl (hn i)
    | _ => rfl) next
end
end Cv
