/-
  My own library for walks, a text of it (CvFn): separation logic over the kit's Calls; no statement of this seat stands here.
-/
import Derived.Test.YtdajpfbgikgkeaaCvAuto
set_option linter.unusedVariables false
set_option linter.unusedSimpArgs false
set_option linter.unusedSectionVars false
namespace Cv
open Go
section
variable {P : Program} {σ : World} {n : Nat} {G : Act → World → Prop} {Q : Post} {K : Env} {D M N : List Asn} {m : Option (List Asn × List Asn)} {ops : Array Oper} {rest : List Oper} {d : Nat} {ty : TypeId} {pos : String} {aft : Array Edge}
/-! ## storing into a slice that is one's own -/
theorem rowsAt_set {sz off i : Nat} {rows : List (List Value)} {r : List Value} {cs : Array Value} (H : RowsAt sz rows cs off) (hs : ∀ r ∈ rows, r.length = sz) (hr : r.length = sz) (hi : i < rows.length) (hsz : off + rows.length * sz ≤ cs.size) {cs' : List Value} (h : SetAt cs.toList (off + i * sz) r cs') :
    RowsAt sz (rows.set i r) cs'.toArray off := by
  intro i' j r' v h1 h2
  obtain ⟨hl, rfl⟩ := h
  rw [List.getElem?_set] at h1
  simp only [List.getElem?_toArray]
  by_cases e : i = i'
  · subst e
    rw [if_pos rfl, if_pos hi] at h1
    cases h1
    have hj : j < r.length := (List.getElem?_eq_some_iff.1 h2).1
    rw [List.append_assoc, List.getElem?_append_right (by simp at hl ⊢; omega)]
    rw [List.length_take, Nat.min_eq_left (by simp at hl ⊢; omega), show off + i * sz + j - (off + i * sz) = j by omega, List.getElem?_append_left hj]
    exact h2
  · rw [if_neg e] at h1
    have h3 := H i' j r' v h1 h2
    have hj : j < sz := by rw [← hs r' (List.mem_of_getElem? h1)]; exact (List.getElem?_eq_some_iff.1 h2).1
    have hi' : i' < rows.length := (List.getElem?_eq_some_iff.1 h1).1
    have e3 : cs.toList[off + i' * sz + j]? = some v := by simpa using h3
    rcases Nat.lt_or_ge i' i with hlt | hge
    · have : (i' + 1) * sz ≤ i * sz := Nat.mul_le_mul_right _ hlt
      rw [Nat.add_mul, Nat.one_mul] at this
      rw [List.append_assoc, List.getElem?_append_left (by simp at hl ⊢; omega), List.getElem?_take_of_lt (by omega)]
      exact e3
    · have : (i + 1) * sz ≤ i' * sz := Nat.mul_le_mul_right _ (by omega)
      rw [Nat.add_mul, Nat.one_mul] at this
      rw [List.getElem?_append_right (by simp at hl ⊢; omega)]
      simp only [List.length_append, List.length_take, List.getElem?_drop]
      rw [Nat.min_eq_left (by simp at hl ⊢; omega), hr, show off + i * sz + sz + (off + i' * sz + j - (off + i * sz + sz)) = off + i' * sz + j by omega]
      exact e3
theorem sat_ownSet {w : World} {sz b o len cap i : Nat} {e : TypeId} {rows : List (List Value)} {r : List Value} (ss : Sat σ D (own sz e (some ⟨b, o, none⟩) len cap rows :: N) w) (hr : r.length = sz) (hi : i < len) :
    ∃ cs cs' : List Value, w.heap[b]? = some (.cells cs.toArray e (0, 0)) ∧ SetAt cs (o + i * sz) r cs' ∧ Sat σ D (own sz e (some ⟨b, o, none⟩) len cap (rows.set i r) :: N) (setB w b (.cells cs'.toArray e (0, 0))) := by
  obtain ⟨z, k, h1, h2, h3, h4, ⟨g1, g2, l1, l2, dj, H, hN⟩⟩ := ss.heap
  obtain ⟨e1, e2, e3, e4⟩ := H
  rcases e4 with ⟨e4, _⟩ | ⟨b', o', cs, e4, e5, e6, e7⟩
  · cases e4
  injection e4 with e4; injection e4 with e8 e9
  subst e8; subst e9
  have hb : w.heap[b]? = some (.cells cs e (0, 0)) := h2 _ _ (l1 _ _ e5)
  have hle : len * sz ≤ cap * sz := Nat.mul_le_mul_right _ e2
  have hle2 : (i + 1) * sz ≤ len * sz := Nat.mul_le_mul_right _ hi
  rw [Nat.add_mul, Nat.one_mul] at hle2
  have hset : SetAt cs.toList (o + i * sz) r (cs.toList.take (o + i * sz) ++ r ++ cs.toList.drop (o + i * sz + r.length)) := ⟨by simp; omega, rfl⟩
  refine ⟨cs.toList, _, by simpa using hb, hset, ?_⟩
  have hlen : (cs.toList.take (o + i * sz) ++ r ++ cs.toList.drop (o + i * sz + r.length)).length = cs.size := by simp; omega
  have s2 : Sat σ D (pt b (.cells cs e (0, 0)) :: N) w := ⟨ss.os, ss.tape, ss.output, z, k, h1, h2, h3, h4, g1, g2, l1, l2, dj, e5, hN⟩
  refine (s2.setB (o' := .cells (cs.toList.take (o + i * sz) ++ r ++ cs.toList.drop (o + i * sz + r.length)).toArray e (0, 0)) Upd.here).ent (Ent.imp fun h hp => ?_)
  refine ⟨by simpa using e1, e2, fun r' hr' => ?_, .inr ⟨b, o, _, rfl, hp, by rw [List.size_toArray, hlen]; exact e6, ?_⟩⟩
  · rcases List.mem_or_eq_of_mem_set hr' with h | h
    · exact e3 _ h
    · rw [h]; exact hr
  · exact rowsAt_set e7 e3 hr (by omega) (by rw [e1]; omega) hset
theorem L.storeO {t e : TypeId} {x y : Operand} {b o len cap : Nat} (i : Nat) {rows : List (List Value)} {v : Value} {off : Nat} (hS : Sc P t) (hx : ev K x = some (.pointer (some ⟨b, off, none⟩))) (ho : off = o + i * 1) (hy : ev K y = some v) (h1 : v.oneCell' = true)
    (hM : Pull (own 1 e (some ⟨b, o, none⟩) len cap rows) M N) (hi : i < len) (next : TL none P σ n ops Q rest K D (own 1 e (some ⟨b, o, none⟩) len cap (rows.set i [v]) :: N)) : TL none P σ n ops Q (⟨none, .store t x y, ty, pos, aft, none⟩ :: rest) K D M :=
  L.eff (fun a w s ss => by
    subst ho
    obtain ⟨cs, cs', hb, hset, hs⟩ := sat_ownSet (i := i) (r := [v]) (ss.ent hM) rfl hi
    have hv : v.cells = [v].toArray := by cases v <;> first | rfl | cases h1
    have hr := run_storeAt (P := P) (t := t) (fun w => (hS w).2) hv rfl (by simpa using h1) hb hset
    refine ⟨_, ?_, hs⟩
    have ex : a.eval x = _ := s.eval hx
    have ey : a.eval y = _ := s.eval hy
    simp only [execOp, ex, ey]
    simp only [Nat.mul_one] at hr ⊢
    simp [hr]) next
theorem L.storeOA {t e : TypeId} {x y : Operand} {b o len cap sz : Nat} (i : Nat) {rows : List (List Value)} {vs : List Value} {off : Nat} (hS : Ag P t sz) (hx : ev K x = some (.pointer (some ⟨b, off, none⟩))) (ho : off = o + i * sz) (hy : ev K y = some (.agg vs.toArray)) (hk : vs.length = sz) (h1 : ∀ u ∈ vs, u.oneCell' = true)
    (hM : Pull (own sz e (some ⟨b, o, none⟩) len cap rows) M N) (hi : i < len) (next : TL none P σ n ops Q rest K D (own sz e (some ⟨b, o, none⟩) len cap (rows.set i vs) :: N)) : TL none P σ n ops Q (⟨none, .store t x y, ty, pos, aft, none⟩ :: rest) K D M :=
  L.eff (fun a w s ss => by
    subst ho
    obtain ⟨cs, cs', hb, hset, hs⟩ := sat_ownSet (i := i) (r := vs) (ss.ent hM) hk hi
    have hr := run_storeAt (P := P) (t := t) (fun w => (hS w).2) (v := .agg vs.toArray) rfl hk h1 hb hset
    refine ⟨_, ?_, hs⟩
    have ex : a.eval x = _ := s.eval hx
    have ey : a.eval y = _ := s.eval hy
    simp only [execOp, ex, ey]
    simp [hr]) next
/-! ## function values -/
@[reducible] def fnV (f : FuncId) (caps : List Value) : Value := .func (.func f) #[] caps.toArray
theorem L.makeFunc {f : FuncId} {xs : List Operand} {caps : List Value} (hd : Nat.blt d n = true) (hx : evs K xs caps) (next : TL m P σ n ops Q rest ((d, fnV f caps) :: K) D M) :
    TL m P σ n ops Q (⟨some d, .makeFunc (.func f) #[] xs.toArray, ty, pos, aft, none⟩ :: rest) K D M :=
  L.quiet hd (fun a w s ss => by
    have h2 : xs.map a.eval = caps := s.evals hx
    simp [execOp, Instr.makeFunc, h2, fnV]) next
theorem callV_run {f : FuncId} {y : Operand} {xs : List Operand} {ats : Array TypeId} {args caps : List Value} {g : Option (Nat × Bool)} {dst : Option Nat} {D0 M0 : List Asn} {R : Value → List Asn → List Asn → Prop} {a : Act} {w : World} (s : Slots n K a) (hy : ev K y = some (fnV f caps)) (hx : evs K xs args) (hS : Spec P f (args ++ caps) D0 M0 R) :
    (execOp a.eval ⟨dst, .call { callee := .value y, args := xs.toArray, argTypes := ats }, ty, pos, aft, g⟩).run P w = .ok (.enter f (args ++ caps).toArray) w := by
  have h1 := hS.fn (args ++ caps).toArray w
  have h2 : xs.map a.eval = args := s.evals hx
  have h3 : a.eval y = _ := s.eval hy
  simp only [execOp, resolve, Deferred.ofValue, h3, fnV, bind, pure, Sem.bind, invoke, List.map_toArray, h2, Array.empty_append, List.append_toArray]
  exact h1
theorem L.callV {f : FuncId} {y : Operand} {xs : List Operand} {ats : Array TypeId} {args caps : List Value} {D0 M0 F : List Asn} {R : Value → List Asn → List Asn → Prop} (hd : Nat.blt d n = true) (hy : ev K y = some (fnV f caps)) (hx : evs K xs args) (hD : SubD D0 D) (hM : Sel M0 M F)
    (hS : Spec P f (args ++ caps) D0 M0 R) (next : ∀ v D' M', R v D' M' → TL none P σ n ops Q rest ((d, v) :: K) (D' ++ D) (M' ++ F)) :
    TL none P σ n ops Q (⟨some d, .call { callee := .value y, args := xs.toArray, argTypes := ats }, ty, pos, aft, none⟩ :: rest) K D M :=
  L.op rfl fun a w s t K' hK' => by
    unfold Oper.wp
    rw [callV_run s hy hx hS]
    refine (hS.run σ D F w ((t.facts (SubD.append hD (.refl _))).ent hM)).mono ?_
    rintro e w' ⟨v, D', M', rfl, hR, hs⟩
    exact hK' _ _ (next v D' M' hR _ _ (s.put v hd) hs)
theorem L.callVF {f : FuncId} {y : Operand} {xs : List Operand} {ats : Array TypeId} {args caps : List Value} {D0 M0 F : List Asn} {R : Value → List Asn → List Asn → Prop} {v : Value} (hd : Nat.blt d n = true) (hy : ev K y = some (fnV f caps)) (hx : evs K xs args) (hD : SubD D0 D) (hM : Sel M0 M F)
    (hS : Spec P f (args ++ caps) D0 M0 R) (hR : ∀ u D' M', R u D' M' → u = v ∧ ∃ M2, AppL M' F M2 ∧ Ent M2 M) (next : TL m P σ n ops Q rest ((d, v) :: K) D M) :
    TL m P σ n ops Q (⟨some d, .call { callee := .value y, args := xs.toArray, argTypes := ats }, ty, pos, aft, none⟩ :: rest) K D M := by
  have hR' : ∀ u D' M', R u D' M' → u = v ∧ Ent (M' ++ F) M := fun u D' M' h => by obtain ⟨e, _, rfl, k⟩ := hR u D' M' h; exact ⟨e, k⟩
  cases m with
  | none =>
    refine L.callV hd hy hx hD hM hS fun u D' M' hu => ?_
    obtain ⟨rfl, e⟩ := hR' u D' M' hu
    exact fun a w s t => next a w s ((t.facts (fun φ h => List.mem_append.2 (.inr h))).ent e)
  | some p =>
    refine fun hp a s => ?_
    have hw : Region.wanted ⟨some d, .call { callee := .value y, args := xs.toArray, argTypes := ats }, ty, pos, aft, none⟩ (yielded ops a.tmps) = true := rfl
    unfold wpQuiet
    rw [hw, if_pos rfl]
    refine ⟨v, fun w t => ?_, next hp _ (s.put v hd)⟩
    unfold Oper.quietAt
    rw [callV_run s hy hx hS]
    refine ⟨rfl, (hS.run σ D F w (((hp.2.2 w t).facts (SubD.append hD (.refl _))).ent hM)).mono ?_⟩
    rintro e w' ⟨u, D', M', rfl, hu, hs⟩
    obtain ⟨rfl, e⟩ := hR' u D' M' hu
    obtain ⟨h1, rfl, _⟩ := hp
    exact ⟨rfl, (hs.facts (fun φ h => List.mem_append.2 (.inr (h1 φ h)))).ent e⟩
/-- what a function needs, in one assertion -/
theorem Spec.all {f : FuncId} {args : List Value} {M0 : List Asn} {v : Value} (h : Spec P f args [] M0 (fun u D' M' => u = v ∧ D' = [] ∧ M' = M0)) : Spec P f args [] [all M0] (fun u D' M' => u = v ∧ D' = [] ∧ M' = [all M0]) where
  fn := h.fn
  run σ D M w t := (h.run σ D M w (t.ent Ent.unfold)).mono (by
    rintro e w' ⟨u, D', M', he, ⟨rfl, rfl, rfl⟩, hs⟩
    exact ⟨u, [], [_], he, ⟨rfl, rfl, rfl⟩, hs.ent Ent.fold⟩)
theorem T.ownNe {sz len cap : Nat} {e : TypeId} {a : Option Addr} {rows : List (List Value)} (hm : own sz e a len cap rows ∈ M) (hne : 0 < len) (next : ∀ b o, a = some ⟨b, o, none⟩ → T σ n G K D M) : T σ n G K D M :=
  T.ownLen hm (fun h _ => T.ownAddr hm (fun e => by rw [e] at h; simp at h; omega) next)
theorem run_equal_nilSl {P : Program} {t e : TypeId} {a : Option Addr} {k c : Nat} (hU : P.underlying t = some (.slice e)) (w : World) : (Op.equal t (.slice a k c) (.slice none 0 0)).run P w = .ok a.isNone w := by
  unfold Op.equal
  rw [show Op.maxDepth = 9999 + 1 from rfl, Op.equalIn]
  cases a <;> simp [run_underlying hU]
theorem L.eqlSl {x y : Operand} {t t' e : TypeId} {a : Option Addr} {k c : Nat} (hd : Nat.blt d n = true) (hU : P.underlying t = some (.slice e)) (hx : ev K x = some (.slice a k c)) (hy : ev K y = some (.slice none 0 0)) (next : TL m P σ n ops Q rest ((d, .bool a.isNone) :: K) D M) :
    TL m P σ n ops Q (⟨some d, .binOp .eql t x y t', ty, pos, aft, none⟩ :: rest) K D M :=
  L.pureOp hd (fun ρ w s => by
    have h1 := s hx
    have h2 := s hy
    have h3 := run_equal_nilSl (a := a) (k := k) (c := c) hU w
    simp only [execOp, h1, h2, eqGuard_at_slice, binOp]
    simp [h3]) next
theorem L.neqSl {x y : Operand} {t t' e : TypeId} {a : Option Addr} {k c : Nat} (hd : Nat.blt d n = true) (hU : P.underlying t = some (.slice e)) (hx : ev K x = some (.slice a k c)) (hy : ev K y = some (.slice none 0 0)) (next : TL m P σ n ops Q rest ((d, .bool (!a.isNone)) :: K) D M) :
    TL m P σ n ops Q (⟨some d, .binOp .neq t x y t', ty, pos, aft, none⟩ :: rest) K D M :=
  L.pureOp hd (fun ρ w s => by
    have h1 := s hx
    have h2 := s hy
    have h3 := run_equal_nilSl (a := a) (k := k) (c := c) hU w
    simp only [execOp, h1, h2, eqGuard_at_slice, binOp]
    simp [h3]) next
/-- an operation whose value nobody takes -/
theorem L.effV {op : Op} {v : Value} {D' M' : List Asn}
    (h : ∀ a w, Slots n K a → Sat σ D M w → ∃ w', (execOp a.eval ⟨none, op, ty, pos, aft, none⟩).run P w = .ok (.value v) w' ∧ Sat σ D' M' w')
    (next : TL none P σ n ops Q rest K D' M') : TL none P σ n ops Q (⟨none, op, ty, pos, aft, none⟩ :: rest) K D M :=
  L.op rfl fun a w s t K' hK' => by
    obtain ⟨w', hr, hs⟩ := h a w s t
    unfold Oper.wp
    rw [hr]
    exact hK' _ _ (next _ _ (s.put' _) hs)
theorem rowsAt_tail {sz off i k : Nat} {rows : List (List Value)} {zs : List Value} {cs : Array Value} (H : RowsAt sz rows cs off) (hs : ∀ r ∈ rows, r.length = sz) (hz : zs.length = sz) (hi : i ≤ rows.length) (hk : i + k = rows.length) (hsz : off + rows.length * sz ≤ cs.size) {cs' : List Value}
    (h : SetAt cs.toList (off + i * sz) (List.replicate k zs).flatten cs') : RowsAt sz (rows.take i ++ List.replicate k zs) cs'.toArray off := by
  intro i' j r v h1 h2
  obtain ⟨hl, rfl⟩ := h
  have hlen : ((List.replicate k zs).flatten).length = k * sz := by rw [rows_flat_len (sz := sz) (fun r hr => by rw [List.eq_of_mem_replicate hr]; exact hz)]; simp
  have hik : (i + k) * sz ≤ cs.size - off := by rw [hk]; omega
  rw [Nat.add_mul] at hik
  simp only [List.getElem?_toArray]
  rcases Nat.lt_or_ge i' i with hlt | hge
  · have hlt' : (i' + 1) * sz ≤ i * sz := Nat.mul_le_mul_right _ hlt
    rw [Nat.add_mul, Nat.one_mul] at hlt'
    rw [List.getElem?_append_left (by simp; omega), List.getElem?_take_of_lt hlt] at h1
    have hj : j < sz := by rw [← hs r (List.mem_of_getElem? h1)]; exact (List.getElem?_eq_some_iff.1 h2).1
    rw [List.append_assoc, List.getElem?_append_left (by simp at hl ⊢; omega), List.getElem?_take_of_lt (by omega)]
    simpa using H i' j r v h1 h2
  · have h1' := h1
    rw [List.getElem?_append_right (by simp; omega), List.length_take, Nat.min_eq_left hi] at h1
    have hr : r = zs := List.eq_of_mem_replicate (List.mem_of_getElem? h1)
    have hi2 : i' - i < k := by have := (List.getElem?_eq_some_iff.1 h1).1; simpa using this
    have hj : j < sz := by rw [← hz, ← hr]; exact (List.getElem?_eq_some_iff.1 h2).1
    have e1 : off + i' * sz + j = off + i * sz + ((i' - i) * sz + j) := by
      have : i' * sz = i * sz + (i' - i) * sz := by rw [← Nat.add_mul]; congr 1; omega
      omega
    have hb : (i' - i + 1) * sz ≤ k * sz := Nat.mul_le_mul_right _ hi2
    rw [Nat.add_mul, Nat.one_mul] at hb
    rw [e1, List.append_assoc, List.getElem?_append_right (by simp at hl ⊢; omega), List.length_take, Nat.min_eq_left (by simp at hl ⊢; omega),
      show off + i * sz + ((i' - i) * sz + j) - (off + i * sz) = (i' - i) * sz + j by omega, List.getElem?_append_left (by rw [hlen]; omega)]
    exact flatten_at (rows := List.replicate k zs) (fun r hr => by rw [List.eq_of_mem_replicate hr]; exact hz) h1 h2
theorem sat_ownTail {w : World} {sz b o len cap i : Nat} {e : TypeId} {rows : List (List Value)} {zs : List Value} (ss : Sat σ D (own sz e (some ⟨b, o, none⟩) len cap rows :: N) w) (hz : zs.length = sz) (hi : i ≤ len) :
    ∃ cs cs' : List Value, w.heap[b]? = some (.cells cs.toArray e (0, 0)) ∧ SetAt cs (o + i * sz) (List.replicate (len - i) zs).flatten cs' ∧ Sat σ D (own sz e (some ⟨b, o, none⟩) len cap (rows.take i ++ List.replicate (len - i) zs) :: N) (setB w b (.cells cs'.toArray e (0, 0))) := by
  obtain ⟨z, k, h1, h2, h3, h4, ⟨g1, g2, l1, l2, dj, H, hN⟩⟩ := ss.heap
  obtain ⟨e1, e2, e3, e4⟩ := H
  rcases e4 with ⟨e4, _⟩ | ⟨b', o', cs, e4, e5, e6, e7⟩
  · cases e4
  injection e4 with e4; injection e4 with e8 e9
  subst e8; subst e9
  have hb : w.heap[b]? = some (.cells cs e (0, 0)) := h2 _ _ (l1 _ _ e5)
  have hle : len * sz ≤ cap * sz := Nat.mul_le_mul_right _ e2
  have hlen : ((List.replicate (len - i) zs).flatten).length = (len - i) * sz := by rw [rows_flat_len (sz := sz) (fun r hr => by rw [List.eq_of_mem_replicate hr]; exact hz)]; simp
  have hadd : i * sz + (len - i) * sz = len * sz := by rw [← Nat.add_mul]; congr 1; omega
  have hset : SetAt cs.toList (o + i * sz) (List.replicate (len - i) zs).flatten (cs.toList.take (o + i * sz) ++ (List.replicate (len - i) zs).flatten ++ cs.toList.drop (o + i * sz + ((List.replicate (len - i) zs).flatten).length)) := ⟨by rw [hlen]; simp; omega, rfl⟩
  refine ⟨cs.toList, _, by simpa using hb, hset, ?_⟩
  have hlen2 : (cs.toList.take (o + i * sz) ++ (List.replicate (len - i) zs).flatten ++ cs.toList.drop (o + i * sz + ((List.replicate (len - i) zs).flatten).length)).length = cs.size := by
    rw [List.length_append, List.length_append, List.length_take, List.length_drop, hlen]; simp; omega
  have s2 : Sat σ D (pt b (.cells cs e (0, 0)) :: N) w := ⟨ss.os, ss.tape, ss.output, z, k, h1, h2, h3, h4, g1, g2, l1, l2, dj, e5, hN⟩
  refine (s2.setB (o' := .cells (cs.toList.take (o + i * sz) ++ (List.replicate (len - i) zs).flatten ++ cs.toList.drop (o + i * sz + ((List.replicate (len - i) zs).flatten).length)).toArray e (0, 0)) Upd.here).ent (Ent.imp fun h hp => ?_)
  refine ⟨by simp; omega, e2, fun r' hr' => ?_, .inr ⟨b, o, _, rfl, hp, by rw [List.size_toArray, hlen2]; exact e6, ?_⟩⟩
  · rcases List.mem_append.1 hr' with h | h
    · exact e3 _ (List.mem_of_mem_take h)
    · rw [List.eq_of_mem_replicate h]; exact hz
  · exact rowsAt_tail e7 e3 hz (by omega) (by omega) (by rw [e1]; omega) hset
theorem zeroCells_list {zs : List Value} (k : Nat) : (Builtin.zeroCells zs.toArray k).toList = (List.replicate k zs).flatten := by
  have hlen : ((List.replicate k zs).flatten).length = k * zs.length := by rw [rows_flat_len (sz := zs.length) (fun r hr => by rw [List.eq_of_mem_replicate hr])]; simp
  apply List.ext_getElem?
  intro i
  simp only [Builtin.zeroCells, Array.toList_map, Array.toList_range, List.getElem?_map]
  by_cases h : i < k * zs.length
  · have h0 : 0 < zs.length := by
      rcases Nat.eq_zero_or_pos zs.length with e | e
      · rw [e] at h; simp at h
      · exact e
    have hm : i % zs.length < zs.length := Nat.mod_lt _ h0
    have hd : i / zs.length < k := (Nat.div_lt_iff_lt_mul h0).2 h
    have e1 := flatten_at (rows := List.replicate k zs) (sz := zs.length) (fun r hr => by rw [List.eq_of_mem_replicate hr]) (i := i / zs.length) (j := i % zs.length) (r := zs) (v := zs[i % zs.length]) (by simp [hd]) (by simp [hm])
    rw [show i / zs.length * zs.length + i % zs.length = i from by rw [Nat.mul_comm]; exact Nat.div_add_mod _ _] at e1
    rw [e1, List.getElem?_range (by simpa using h)]
    simp [hm]
  · rw [List.getElem?_eq_none (by simpa using h), List.getElem?_eq_none (by rw [hlen]; omega)]
    rfl
theorem L.clearO {t e e' : TypeId} {x : Operand} {b o len cap i sz : Nat} {rows : List (List Value)} {zs : List Value} {z : Value} (hU : P.underlying t = some (.slice e')) (hz : ∀ w, (zeroValue e').run P w = .ok z w) (hzc : z.cells = zs.toArray) (hzs : zs.length = sz) (h1 : ∀ u ∈ zs, u.oneCell' = true)
    (hx : ev K x = some (.slice (cutA (some ⟨b, o, none⟩) cap i sz) (len - i) (cap - i))) (hM : Pull (own sz e (some ⟨b, o, none⟩) len cap rows) M N) (hi : i ≤ len) (hc : len ≤ cap)
    (next : TL none P σ n ops Q rest K D (own sz e (some ⟨b, o, none⟩) len cap (rows.take i ++ List.replicate (len - i) zs) :: N)) :
    TL none P σ n ops Q (⟨none, .call { callee := .builtin .clear, args := #[x], argTypes := #[t] }, ty, pos, aft, none⟩ :: rest) K D M :=
  L.effV (v := .tuple #[]) (fun a w s ss => by
    have ex : a.eval x = _ := s.eval hx
    rcases Nat.lt_or_ge i len with hlt | hge
    · obtain ⟨cs, cs', hb, hset, hs⟩ := sat_ownTail (i := i) (zs := zs) (ss.ent hM) hzs hi
      refine ⟨_, ?_, hs⟩
      have hk : len - i ≠ 0 := by omega
      obtain ⟨k, hk'⟩ : ∃ k, len - i = k + 1 := ⟨len - i - 1, by omega⟩
      have e1 : cutA (some ⟨b, o, none⟩) cap i sz = some ⟨b, o + i * sz, none⟩ := by
        unfold cutA; rw [if_neg (by omega)]; simp [Addr.add]
      have h2 := run_storeCells_at P b (o + i * sz) e (List.replicate (len - i) zs).flatten 0 cs.toArray w hb (by simpa using hset.1) (by
        intro u hu
        obtain ⟨r, hr, hu⟩ := List.mem_flatten.1 hu
        rw [List.eq_of_mem_replicate hr] at hu
        exact h1 u hu)
      simp only [Nat.add_zero] at h2
      have h3 : Sem.run P (storeCells ⟨b, o + i * sz, none⟩ (List.replicate (len - i) zs).flatten) w = .ok () (setB w b (.cells cs'.toArray e (0, 0))) := by
        rw [show (storeCells ⟨b, o + i * sz, none⟩ (List.replicate (len - i) zs).flatten) = storeCells ⟨b, o + i * sz, none⟩ (List.replicate (len - i) zs).flatten 0 from rfl, h2, setRow_setB hb, hset.2]
      rw [e1] at ex
      rw [hk'] at h3 ex
      simp [execOp, resolve, invoke, builtin, ex, Builtin.clear_, run_underlying hU, hz, hzc, zeroCells_list, h3]
    · have : i = len := by omega
      subst this
      refine ⟨w, ?_, (ss.ent hM).ent ?_⟩
      · rw [Nat.sub_self] at ex
        cases hcut : cutA (some ⟨b, o, none⟩) cap i sz with
        | none => rw [hcut] at ex; simp [execOp, resolve, invoke, builtin, ex, Builtin.clear_, run_underlying hU]
        | some p => rw [hcut] at ex; simp [execOp, resolve, invoke, builtin, ex, Builtin.clear_, run_underlying hU]
      · intro h H
        obtain ⟨g1, g2, l1, l2, dj, H1, H2⟩ := H
        have hl := H1.1
        rw [Nat.sub_self, List.replicate_zero, List.append_nil, List.take_of_length_le (by omega)]
        exact ⟨g1, g2, l1, l2, dj, H1, H2⟩) next
end
/-! ## clear of a part, nil slices -/
end Cv
namespace Cv
open Go
section
variable {σ : World} {n : Nat} {G : Act → World → Prop} {K : Env} {D M N : List Asn}
theorem T.rslNil {len cap sz : Nat} {rows : List (List Value)} (hm : rsl sz none len cap rows ∈ D) (next : rows = [] → T σ n G K D M) : T σ n G K D M :=
  T.fact hm (fun z h => by
    rcases h.2.2.2 with h | ⟨b, o, c, t, m, h, _⟩
    · exact h
    · cases h) next
theorem T.ownTo {sz len cap h : Nat} {e : TypeId} {a : Option Addr} {rows : List (List Value)} (hM : Pull (own sz e a len cap rows) M N) (hh : h ≤ len) (next : T σ n G K D (own sz e a h cap (rows.take h) :: N)) : T σ n G K D M :=
  T.drop (Ent.trans hM (Ent.imp fun z H => own_to hh H)) next
end
end Cv
namespace Cv
open Go
section
variable {P : Program} {σ : World} {n : Nat} {Q : Post} {K : Env} {D M N : List Asn} {m : Option (List Asn × List Asn)} {ops : Array Oper} {l rest : List Oper} {d : Nat} {ty : TypeId} {pos : String} {aft : Array Edge}
theorem L.unfold {A : Asn} (L : List Asn) (hM : Pull A M N) (e : A = all L) {X : List Asn} (hX : AppL L N X) (next : TL none P σ n ops Q l K D X) : TL none P σ n ops Q l K D M := T.unfold L hM e hX next
theorem L.foldAs (A : Asn) {L : List Asn} (hM : Sel L M N) (e : A = all L) (next : TL none P σ n ops Q l K D (A :: N)) : TL none P σ n ops Q l K D M := T.foldAs A hM e next
theorem L.ownLen {a : Option Addr} {len cap sz : Nat} {e : TypeId} {rows : List (List Value)} (hm : own sz e a len cap rows ∈ M) (next : rows.length = len → len ≤ cap → TL none P σ n ops Q l K D M) : TL none P σ n ops Q l K D M := T.ownLen hm next
theorem L.convU8 {x : Operand} {src dst : TypeId} {b : UInt8} {s : TypeDesc} (hd : Nat.blt d n = true) (hS : P.underlying src = some s) (hU : P.underlying dst = some (.int .i64)) (hx : ev K x = some (Y b)) (next : ∀ kk : Int, 0 ≤ kk → kk ≤ 255 → TL m P σ n ops Q rest ((d, .int .i64 kk) :: K) D M) :
    TL m P σ n ops Q (⟨some d, .convert src dst x, ty, pos, aft, none⟩ :: rest) K D M := by
  have hb : (b.toNat : Int) < 256 := by have := b.toNat_lt; omega
  exact L.convN (k' := .u8) (z := (b.toNat : Int)) hd hS hU hx (by omega) (next _ (by omega) (by omega))
end
end Cv
namespace Cv
open Go
section
variable {P : Program} {σ : World} {n : Nat} {Q : Post} {K : Env} {D M N : List Asn} {m : Option (List Asn × List Asn)} {ops : Array Oper} {l rest : List Oper} {d : Nat}
theorem yielded_undef {a : Act} {j dj : Nat} (s : Slots n K a) (hj : (ops[j]?).bind (·.dst) = some dj) (hb : get K dj = some undef) : yielded ops a.tmps j = none := by
  have h := s.val dj _ hb
  rw [Array.getD_eq_getD_getElem?] at h
  unfold yielded
  rw [hj]
  show (match a.tmps[dj]? with | some (.bool b) => some b | _ => none) = none
  cases e : a.tmps[dj]? with
  | none => rfl
  | some v => rw [e] at h; simp only [Option.getD_some] at h; subst h; rfl
/-- the guard's own operation was left out -/
theorem L.guardU {o : Oper} {j dj : Nat} {b : Bool} (hg : o.guard = some (j, b)) (hdst : o.dst = some d) (hd : Nat.blt d n = true) (hj : (ops[j]?).bind (·.dst) = some dj) (hb : get K dj = some undef)
    (h : TL m P σ n ops Q rest ((d, undef) :: K) D M) : TL m P σ n ops Q (o :: rest) K D M := by
  have e2 : ∀ a : Act, Slots n K a → Region.wanted o (yielded ops a.tmps) = false := fun a s => by simp [Region.wanted, hg, yielded_undef s hj hb]
  cases m with
  | none => exact fun a w s t => wpList_skip (e2 a s) (by rw [hdst]; exact h _ _ (s.put _ hd) t)
  | some p =>
    exact fun hp a s => wpQuiet_skip (e2 a s) (by rw [hdst]; exact h hp _ (s.put _ hd))
theorem L.guardUG {o : Oper} {j dj : Nat} {b : Bool} (hg : o.guard = some (j, b)) (hdst : o.dst = none) (hj : (ops[j]?).bind (·.dst) = some dj) (hb : get K dj = some undef)
    (h : TL none P σ n ops Q rest K D M) : TL none P σ n ops Q (o :: rest) K D M := fun a w s t => by
  have e2 : Region.wanted o (yielded ops a.tmps) = false := by simp [Region.wanted, hg, yielded_undef s hj hb]
  refine wpList_skip e2 ?_
  rw [hdst]
  exact h _ _ s t
end
end Cv
namespace Cv
open Go
section
variable {P : Program} {σ : World} {n : Nat} {Q : Post} {K : Env} {D M N : List Asn} {m : Option (List Asn × List Asn)} {ops : Array Oper} {l rest : List Oper} {d : Nat} {ty : TypeId} {pos : String} {aft : Array Edge}
theorem L.fieldV {t ft : TypeId} {x : Operand} {f off : Nat} {fields : Array Go.Field} {cs : List Value} {v : Value} (hd : Nat.blt d n = true) (hU : P.underlying t = some (.struct fields)) (hf : (fields[f]?).map (fun y => (y.type, y.offset)) = some (ft, off)) (hS : Sc P ft)
    (hx : ev K x = some (.agg cs.toArray)) (hv : cs[off]? = some v) (next : TL m P σ n ops Q rest ((d, v) :: K) D M) : TL m P σ n ops Q (⟨some d, .field t x f, ty, pos, aft, none⟩ :: rest) K D M :=
  L.pureOp hd (fun ρ w s => by
    have e1 := s hx
    cases hfl : fields[f]? with
    | none => rw [hfl] at hf; cases hf
    | some fl =>
      rw [hfl] at hf
      simp only [Option.map_some, Option.some.injEq, Prod.mk.injEq] at hf
      obtain ⟨rfl, rfl⟩ := hf
      have h2 := (hS w).1
      simp only [execOp, e1]
      simp [Instr.field, run_underlying hU, hfl, asAgg, Go.part, h2, hv, Sem.run]) next
theorem L.fieldVA {t ft : TypeId} {x : Operand} {f off k : Nat} {fields : Array Go.Field} {cs vs : List Value} (hd : Nat.blt d n = true) (hU : P.underlying t = some (.struct fields)) (hf : (fields[f]?).map (fun y => (y.type, y.offset)) = some (ft, off)) (hS : Ag P ft k)
    (hx : ev K x = some (.agg cs.toArray)) (hv : (cs.drop off).take k = vs) (next : TL m P σ n ops Q rest ((d, .agg vs.toArray) :: K) D M) : TL m P σ n ops Q (⟨some d, .field t x f, ty, pos, aft, none⟩ :: rest) K D M :=
  L.pureOp hd (fun ρ w s => by
    have e1 := s hx
    cases hfl : fields[f]? with
    | none => rw [hfl] at hf; cases hf
    | some fl =>
      rw [hfl] at hf
      simp only [Option.map_some, Option.some.injEq, Prod.mk.injEq] at hf
      obtain ⟨rfl, rfl⟩ := hf
      have h2 := (hS w).1
      have h3 := (hS w).2
      have e2 : cs.toArray.extract fl.offset (fl.offset + k) = vs.toArray := by
        rw [← hv]
        apply Array.ext'
        simp [List.extract_eq_take_drop, List.drop_take]
      simp only [execOp, e1]
      simp [Instr.field, run_underlying hU, hfl, asAgg, Go.part, h2, h3]
      exact hv) next
end
end Cv
