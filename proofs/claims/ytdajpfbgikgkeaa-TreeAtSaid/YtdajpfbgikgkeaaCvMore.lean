/-
  My own library for walks, a text of it (CvMore): separation logic over the kit's Calls; no statement of this seat stands here.
-/
import Derived.Test.YtdajpfbgikgkeaaCvEach
set_option linter.unusedVariables false
set_option linter.unusedSimpArgs false
set_option linter.unusedSectionVars false
namespace Cv
open Go
theorem yr_flat : ∀ (l : List UInt8), (l.map yr).flatten = l.map Y
  | [] => rfl
  | b :: l => by simp only [List.map_cons, List.flatten_cons, yr_flat l]; rfl
theorem Spec.imp {P : Program} {f : FuncId} {args : List Value} {D0 M0 : List Asn} {R R' : Value → List Asn → List Asn → Prop} (h : Spec P f args D0 M0 R) (i : ∀ v D M, R v D M → R' v D M) : Spec P f args D0 M0 R' where
  fn := h.fn
  run σ D M w t := (h.run σ D M w t).mono (fun e w' ⟨v, D', M', he, hR, hs⟩ => ⟨v, D', M', he, i _ _ _ hR, hs⟩)
section
variable {P : Program} {σ : World} {n : Nat} {Q : Post} {K : Env} {D M : List Asn} {m : Option (List Asn × List Asn)} {ops : Array Oper} {rest : List Oper} {d : Nat} {ty : TypeId} {pos : String} {aft : Array Edge}
theorem T.retAT {fn : Func} {t u k : Nat} {tt : TypeId} {b off : Nat} {R : Value → List Asn → List Asn → Prop} {D0 M0 D' M' : List Asn} {vs : List Value} {v : Value} (hr : fn.results = #[.cell t tt, .tmp u]) (hS : Ag P tt k) (hx : get K t = some (.pointer (some ⟨b, off, none⟩))) (hc : CellsN σ D M b off k vs) (hv : get K u = some v)
    (hR : R (.tuple #[.agg vs.toArray, v]) D' M') (hD : SubD (D' ++ D0) D) (hM : Ent M (M' ++ M0)) : T σ n (bodyPost P fn (RetPost σ R D0 M0) .ret) K D M :=
  T.ret0 (.inl rfl) (fun a w s ss => by
    obtain ⟨hl, hc⟩ := hc
    obtain ⟨c, t', m, hb, hv'⟩ := hc w ss
    have h1 : (loadCells ⟨b, off, none⟩ vs.length).run P w = .ok vs.toArray w := run_loadCells_list (P := P) w _ vs (fun j v e => by rw [add_lit, cell_of hb]; exact hv' j v e)
    have h2 := (hS w).1
    have h4 := (hS w).2
    have h3 := s.val t _ hx
    have h5 := s.val u _ hv
    rw [Array.getD_eq_getD_getElem?] at h3 h5
    subst hl
    simp [results, hr, h3, h5, asAddr, loadVar, h2, h4, h1, Sem.run]) hR hD hM
theorem T.retAA {fn : Func} {t t2 k k2 : Nat} {tt tt2 : TypeId} {b off b2 off2 : Nat} {R : Value → List Asn → List Asn → Prop} {D0 M0 D' M' : List Asn} {vs vs2 : List Value} (hr : fn.results = #[.cell t tt, .cell t2 tt2]) (hS : Ag P tt k) (hS2 : Ag P tt2 k2) (hx : get K t = some (.pointer (some ⟨b, off, none⟩))) (hx2 : get K t2 = some (.pointer (some ⟨b2, off2, none⟩)))
    (hc : CellsN σ D M b off k vs) (hc2 : CellsN σ D M b2 off2 k2 vs2)
    (hR : R (.tuple #[.agg vs.toArray, .agg vs2.toArray]) D' M') (hD : SubD (D' ++ D0) D) (hM : Ent M (M' ++ M0)) : T σ n (bodyPost P fn (RetPost σ R D0 M0) .ret) K D M :=
  T.ret0 (.inl rfl) (fun a w s ss => by
    obtain ⟨hl, hc⟩ := hc
    obtain ⟨c, t', m, hb, hv'⟩ := hc w ss
    obtain ⟨hl2, hc2⟩ := hc2
    obtain ⟨c2, t2', m2, hb2, hv2'⟩ := hc2 w ss
    have h1 : (loadCells ⟨b, off, none⟩ vs.length).run P w = .ok vs.toArray w := run_loadCells_list (P := P) w _ vs (fun j v e => by rw [add_lit, cell_of hb]; exact hv' j v e)
    have g1 : (loadCells ⟨b2, off2, none⟩ vs2.length).run P w = .ok vs2.toArray w := run_loadCells_list (P := P) w _ vs2 (fun j v e => by rw [add_lit, cell_of hb2]; exact hv2' j v e)
    have h2 := (hS w).1
    have h4 := (hS w).2
    have g2 := (hS2 w).1
    have g4 := (hS2 w).2
    have h3 := s.val t _ hx
    have h5 := s.val t2 _ hx2
    rw [Array.getD_eq_getD_getElem?] at h3 h5
    subst hl hl2
    simp [results, hr, h3, h5, asAddr, loadVar, h2, h4, h1, g1, g2, g4, Sem.run]) hR hD hM
theorem Cells.ofOwn1 {α : Type} {g : α → List Value} {xs : List α} {x : α} {v : Value} {b o len cap i : Nat} {e : TypeId} (hm : own 1 e (some ⟨b, o, none⟩) len cap (xs.map g) ∈ M) (hx : xs[i]? = some x) (hv : g x = [v]) : Cells σ D M b (o + i * 1) [v] :=
  Cells.ofOwn hm (by rw [List.getElem?_map, hx]; simp [hv])
theorem Cells.ofRsl1 {α : Type} {g : α → List Value} {xs : List α} {x : α} {v : Value} {b o len cap i : Nat} (hm : rsl 1 (some ⟨b, o, none⟩) len cap (xs.map g) ∈ D) (hx : xs[i]? = some x) (hv : g x = [v]) : Cells σ D M b (o + i * 1) [v] :=
  Cells.ofRsl hm (by rw [List.getElem?_map, hx]; simp [hv])
theorem CellsN.ofMall {b k : Nat} {t : TypeId} {cs : List Value} (h : cl b t cs ∈ M) (a : cs.length = k) : CellsN σ D M b 0 k cs := CellsN.ofM h (AtN.all a)
theorem Cells.ofRslA {b o len cap i sz k j : Nat} {rows : List (List Value)} {r vs : List Value} (hm : rsl sz (some ⟨b, o, none⟩) len cap rows ∈ D) (hr : rows[i]? = some r) (a : AtN k r j vs) : Cells σ D M b (o + i * sz + j) vs := (Cells.ofRsl hm hr).sub a
theorem Cells.ofOwnA {b o len cap i sz k j : Nat} {e : TypeId} {rows : List (List Value)} {r vs : List Value} (hm : own sz e (some ⟨b, o, none⟩) len cap rows ∈ M) (hr : rows[i]? = some r) (a : AtN k r j vs) : Cells σ D M b (o + i * sz + j) vs := (Cells.ofOwn hm hr).sub a
theorem CellsN.ofRslA {b o len cap i sz k j : Nat} {rows : List (List Value)} {r vs : List Value} (hm : rsl sz (some ⟨b, o, none⟩) len cap rows ∈ D) (hr : rows[i]? = some r) (a : AtN k r j vs) : CellsN σ D M b (o + i * sz + j) k vs := ⟨a.1, Cells.ofRslA hm hr a⟩
theorem CellsN.ofOwnA {b o len cap i sz k j : Nat} {e : TypeId} {rows : List (List Value)} {r vs : List Value} (hm : own sz e (some ⟨b, o, none⟩) len cap rows ∈ M) (hr : rows[i]? = some r) (a : AtN k r j vs) : CellsN σ D M b (o + i * sz + j) k vs := ⟨a.1, Cells.ofOwnA hm hr a⟩
theorem CellsN.ofRsl {b o len cap i sz k : Nat} {rows : List (List Value)} {r : List Value} (hm : rsl sz (some ⟨b, o, none⟩) len cap rows ∈ D) (hr : rows[i]? = some r) (hk : r.length = k) : CellsN σ D M b (o + i * sz) k r := ⟨hk, Cells.ofRsl hm hr⟩
theorem CellsN.ofOwn {b o len cap i sz k : Nat} {e : TypeId} {rows : List (List Value)} {r : List Value} (hm : own sz e (some ⟨b, o, none⟩) len cap rows ∈ M) (hr : rows[i]? = some r) (hk : r.length = k) : CellsN σ D M b (o + i * sz) k r := ⟨hk, Cells.ofOwn hm hr⟩
variable {κ ν : Type} [DecidableEq κ] {kenc : κ → Value} {venc : ν → Value}
theorem L.look1S {t kt et : TypeId} {x y : Operand} {b : Nat} {k : κ} {l : List (κ × ν)} {z : Value} {v : ν} (hd : Nat.blt d n = true) (hU : P.underlying t = some (.map kt et)) (hK : KeyT P kt kenc) (hz : ∀ w, (zeroValue et).run P w = .ok z w)
    (hx : ev K x = some (.map (some b))) (hy : ev K y = some (kenc k)) (hm : mp b kenc venc l ∈ M) (hl : look l k = some v)
    (next : TL m P σ n ops Q rest ((d, venc v) :: K) D M) : TL m P σ n ops Q (⟨some d, .lookup t x y false, ty, pos, aft, none⟩ :: rest) K D M :=
  L.lookup1 hd hU hK hz hx hy hm (by rw [hl]; exact next)
theorem L.look1N {t kt et : TypeId} {x y : Operand} {b : Nat} {k : κ} {l : List (κ × ν)} {z : Value} (hd : Nat.blt d n = true) (hU : P.underlying t = some (.map kt et)) (hK : KeyT P kt kenc) (hz : ∀ w, (zeroValue et).run P w = .ok z w)
    (hx : ev K x = some (.map (some b))) (hy : ev K y = some (kenc k)) (hm : mp b kenc venc l ∈ M) (hl : look l k = none)
    (next : TL m P σ n ops Q rest ((d, z) :: K) D M) : TL m P σ n ops Q (⟨some d, .lookup t x y false, ty, pos, aft, none⟩ :: rest) K D M :=
  L.lookup1 hd hU hK hz hx hy hm (by rw [hl]; exact next)
end
end Cv
