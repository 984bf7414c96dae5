/-
  My own library for walks, a text of it (CvPart): separation logic over the kit's Calls; no statement of this seat stands here.
-/
import Derived.Test.YtdajpfbgikgkeaaCvFn
set_option linter.unusedVariables false
set_option linter.unusedSimpArgs false
set_option linter.unusedSectionVars false
namespace Cv
open Go
section
variable {P : Program} {σ : World} {n : Nat} {Q : Post} {K : Env} {D M N : List Asn} {ops : Array Oper} {rest : List Oper} {ty : TypeId} {pos : String} {aft : Array Edge}
/-- a part of a row is set -/
theorem sat_ownPart {w : World} {sz b o len cap i j k : Nat} {e : TypeId} {rows : List (List Value)} {r vs r' : List Value} (ss : Sat σ D (own sz e (some ⟨b, o, none⟩) len cap rows :: N) w) (hr : rows[i]? = some r) (hk : vs.length = k) (hs : SetAt r j vs r') :
    ∃ cs cs' : List Value, w.heap[b]? = some (.cells cs.toArray e (0, 0)) ∧ SetAt cs (o + i * sz + j) vs cs' ∧ Sat σ D (own sz e (some ⟨b, o, none⟩) len cap (rows.set i r') :: N) (setB w b (.cells cs'.toArray e (0, 0))) := by
  obtain ⟨y, ly, H⟩ := ss.own (.head _)
  obtain ⟨e1, e2, e3, e4⟩ := H
  have hi : i < len := by rw [← e1]; exact (List.getElem?_eq_some_iff.1 hr).1
  have hrl : r.length = sz := e3 r (List.mem_of_getElem? hr)
  obtain ⟨hs1, hs2⟩ := hs
  have hrl' : r'.length = sz := by rw [hs2]; simp; omega
  obtain ⟨cs, cs', hb, hset, hsat⟩ := sat_ownSet (i := i) (r := r') ss hrl' hi
  refine ⟨cs, cs', hb, ?_, hsat⟩
  obtain ⟨q1, q2⟩ := hset
  rcases e4 with ⟨e4, _⟩ | ⟨b', o', cs0, e4, e5, e6, e7⟩
  · cases e4
  injection e4 with e4; injection e4 with e8 e9
  subst e8; subst e9
  have hb' := ly _ _ e5
  have hcs : cs0 = cs.toArray := by
    have : w.heap[b]? = some (.cells cs0 e (0, 0)) := hb'
    rw [hb] at this
    injection this with this
    injection this with this
    exact this.symm
  subst hcs
  have at' : ∀ m, m < sz → cs[o + i * sz + m]? = r[m]? := fun m hm => by
    have : r[m]? = some r[m] := List.getElem?_eq_getElem (by omega)
    rw [this]
    have := e7 i m r r[m] hr this
    simpa using this
  refine ⟨by omega, ?_⟩
  rw [q2, hs2]
  apply List.ext_getElem?
  intro m
  have hL : (List.take j r ++ vs ++ List.drop (j + vs.length) r).length = sz := by simp; omega
  rw [hL]
  have hlen : o + i * sz + sz ≤ cs.length := by rw [hrl'] at q1; exact q1
  have g1 : ((List.take (o + i * sz) cs ++ (List.take j r ++ vs ++ List.drop (j + vs.length) r)) ++ List.drop (o + i * sz + sz) cs)[m]? = if m < o + i * sz then cs[m]? else if m < o + i * sz + sz then (if m - (o + i * sz) < j then r[m - (o + i * sz)]? else if m - (o + i * sz) < j + vs.length then vs[m - (o + i * sz) - j]? else r[m - (o + i * sz)]?) else cs[m]? := by
    by_cases h1 : m < o + i * sz
    · rw [if_pos h1, List.append_assoc, List.getElem?_append_left (by simp; omega), List.getElem?_take_of_lt h1]
    · rw [if_neg h1]
      by_cases h2 : m < o + i * sz + sz
      · rw [if_pos h2, List.getElem?_append_left (by rw [List.length_append, hL, List.length_take]; omega), List.getElem?_append_right (by simp; omega)]
        rw [show m - (List.take (o + i * sz) cs).length = m - (o + i * sz) by rw [List.length_take]; omega]
        by_cases h3 : m - (o + i * sz) < j
        · rw [if_pos h3, List.append_assoc, List.getElem?_append_left (by simp; omega), List.getElem?_take_of_lt h3]
        · rw [if_neg h3]
          by_cases h4 : m - (o + i * sz) < j + vs.length
          · rw [if_pos h4, List.getElem?_append_left (by simp; omega), List.getElem?_append_right (by simp; omega)]
            congr 1; simp; omega
          · rw [if_neg h4, List.getElem?_append_right (by simp; omega), List.getElem?_drop]
            congr 1; simp; omega
      · rw [if_neg h2, List.getElem?_append_right (by rw [List.length_append, hL, List.length_take]; omega), List.getElem?_drop]
        congr 1; rw [List.length_append, hL, List.length_take]; omega
  have g2 : (List.take (o + i * sz + j) cs ++ vs ++ List.drop (o + i * sz + j + vs.length) cs)[m]? = if m < o + i * sz + j then cs[m]? else if m < o + i * sz + j + vs.length then vs[m - (o + i * sz + j)]? else cs[m]? := by
    by_cases h1 : m < o + i * sz + j
    · rw [if_pos h1, List.append_assoc, List.getElem?_append_left (by simp; omega), List.getElem?_take_of_lt h1]
    · rw [if_neg h1]
      by_cases h2 : m < o + i * sz + j + vs.length
      · rw [if_pos h2, List.getElem?_append_left (by simp; omega), List.getElem?_append_right (by simp; omega)]
        congr 1; simp; omega
      · rw [if_neg h2, List.getElem?_append_right (by simp; omega), List.getElem?_drop]
        congr 1; simp; omega
  rw [g1, g2]
  by_cases h1 : m < o + i * sz
  · rw [if_pos h1, if_pos (by omega)]
  · rw [if_neg h1]
    by_cases h2 : m < o + i * sz + sz
    · rw [if_pos h2]
      have ha := at' (m - (o + i * sz)) (by omega)
      rw [show o + i * sz + (m - (o + i * sz)) = m by omega] at ha
      by_cases h3 : m - (o + i * sz) < j
      · rw [if_pos h3, if_pos (by omega), ha]
      · rw [if_neg h3, if_neg (show ¬ m < o + i * sz + j by omega)]
        by_cases h4 : m - (o + i * sz) < j + vs.length
        · rw [if_pos h4, if_pos (show m < o + i * sz + j + vs.length by omega)]; congr 1; omega
        · rw [if_neg h4, if_neg (show ¬ m < o + i * sz + j + vs.length by omega), ha]
    · rw [if_neg h2, if_neg (by omega), if_neg (by omega)]
theorem L.storeF {t e : TypeId} {x y : Operand} {b o len cap sz : Nat} (i j : Nat) {rows : List (List Value)} {r r' : List Value} {v : Value} {off : Nat} (hS : Sc P t) (hx : ev K x = some (.pointer (some ⟨b, off, none⟩))) (ho : off = o + i * sz + j) (hy : ev K y = some v) (h1 : v.oneCell' = true)
    (hM : Pull (own sz e (some ⟨b, o, none⟩) len cap rows) M N) (hr : rows[i]? = some r) (hs : SetAt r j [v] r') (next : TL none P σ n ops Q rest K D (own sz e (some ⟨b, o, none⟩) len cap (rows.set i r') :: N)) : TL none P σ n ops Q (⟨none, .store t x y, ty, pos, aft, none⟩ :: rest) K D M :=
  L.eff (fun a w s ss => by
    subst ho
    obtain ⟨cs, cs', hb, hset, hs⟩ := sat_ownPart (ss.ent hM) hr rfl hs
    have hv : v.cells = [v].toArray := by cases v <;> first | rfl | cases h1
    have hr := run_storeAt (P := P) (t := t) (fun w => (hS w).2) hv rfl (by simpa using h1) hb hset
    refine ⟨_, ?_, hs⟩
    have ex : a.eval x = _ := s.eval hx
    have ey : a.eval y = _ := s.eval hy
    simp only [execOp, ex, ey]
    simp [hr]) next
theorem L.storeFA {t e : TypeId} {x y : Operand} {b o len cap sz k : Nat} (i j : Nat) {rows : List (List Value)} {r r' vs : List Value} {off : Nat} (hS : Ag P t k) (hx : ev K x = some (.pointer (some ⟨b, off, none⟩))) (ho : off = o + i * sz + j) (hy : ev K y = some (.agg vs.toArray)) (hk : vs.length = k) (h1 : ∀ u ∈ vs, u.oneCell' = true)
    (hM : Pull (own sz e (some ⟨b, o, none⟩) len cap rows) M N) (hr : rows[i]? = some r) (hs : SetAt r j vs r') (next : TL none P σ n ops Q rest K D (own sz e (some ⟨b, o, none⟩) len cap (rows.set i r') :: N)) : TL none P σ n ops Q (⟨none, .store t x y, ty, pos, aft, none⟩ :: rest) K D M :=
  L.eff (fun a w s ss => by
    subst ho
    obtain ⟨cs, cs', hb, hset, hs⟩ := sat_ownPart (ss.ent hM) hr hk hs
    have hr := run_storeAt (P := P) (t := t) (fun w => (hS w).2) (v := .agg vs.toArray) rfl hk h1 hb hset
    refine ⟨_, ?_, hs⟩
    have ex : a.eval x = _ := s.eval hx
    have ey : a.eval y = _ := s.eval hy
    simp only [execOp, ex, ey]
    simp [hr]) next
end
end Cv
