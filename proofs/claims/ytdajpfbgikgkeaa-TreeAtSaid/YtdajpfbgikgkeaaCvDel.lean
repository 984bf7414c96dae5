/-
  My own library for walks, a text of it (CvDel): separation logic over the kit's Calls; no statement of this seat stands here.
-/
import Derived.Test.YtdajpfbgikgkeaaCvRange
set_option linter.unusedVariables false
set_option linter.unusedSimpArgs false
set_option linter.unusedSectionVars false
namespace Cv
open Go
/-! ## a slice's own elements, moved within it (append of a later part onto an earlier one) -/
section
variable {P : Program} {σ : World} {n : Nat} {Q : Post} {K : Env} {D M N : List Asn} {m : Option (List Asn × List Asn)} {ops : Array Oper} {l rest : List Oper} {d : Nat} {ty : TypeId} {pos : String} {aft : Array Edge}
theorem splice_any {α : Type} (l news : List α) (o j : Nat) (h : o + news.length ≤ l.length) :
    (l.take o ++ news ++ l.drop (o + news.length))[j]? = if j < o then l[j]? else if j < o + news.length then news[j - o]? else l[j]? := by
  have h1 : (l.take o).length = o := by simp; omega
  by_cases h2 : j < o
  · rw [if_pos h2, List.append_assoc, List.getElem?_append_left (by omega), List.getElem?_take_of_lt h2]
  · rw [if_neg h2]
    by_cases h3 : j < o + news.length
    · rw [if_pos h3, List.getElem?_append_left (by simp; omega), List.getElem?_append_right (by omega), h1]
    · rw [if_neg h3, List.getElem?_append_right (by simp; omega)]
      simp only [List.length_append, h1, List.getElem?_drop]
      congr 1; omega
theorem rowsAt_splice {sz o i : Nat} {rows news : List (List Value)} {c : List Value} (h : ∀ r ∈ rows, r.length = sz) (h' : ∀ r ∈ news, r.length = sz) (hn : i + news.length ≤ rows.length)
    (H : RowsAt sz rows c.toArray o) (hc : o + rows.length * sz ≤ c.length) : RowsAt sz (rows.take i ++ news ++ rows.drop (i + news.length)) (c.take (o + i * sz) ++ news.flatten ++ c.drop (o + i * sz + news.flatten.length)).toArray o := by
  intro q p r v h1 h2
  have hf := rows_flat_len h'
  have hle : (i + news.length) * sz ≤ rows.length * sz := Nat.mul_le_mul_right _ hn
  rw [Nat.add_mul] at hle
  rw [splice_any _ _ _ _ hn] at h1
  simp only [List.getElem?_toArray]
  rw [splice_get c news.flatten (o + i * sz) (o + q * sz + p) (by rw [hf]; omega), hf]
  have hp := (List.getElem?_eq_some_iff.1 h2).1
  by_cases c1 : q < i
  · rw [if_pos c1] at h1
    have hr := h r (List.mem_of_getElem? h1)
    have : (q + 1) * sz ≤ i * sz := Nat.mul_le_mul_right _ c1
    rw [Nat.add_mul] at this
    rw [if_pos (by omega)]
    simpa using H q p r v h1 h2
  · rw [if_neg c1] at h1
    have h3 : i * sz ≤ q * sz := Nat.mul_le_mul_right _ (by omega)
    by_cases c2 : q < i + news.length
    · rw [if_pos c2] at h1
      have hr := h' r (List.mem_of_getElem? h1)
      have : (q + 1) * sz ≤ (i + news.length) * sz := Nat.mul_le_mul_right _ c2
      rw [Nat.add_mul, Nat.add_mul] at this
      rw [if_neg (by omega), if_pos (by omega)]
      have h4 := flatten_at h' h1 h2
      rw [Nat.sub_mul] at h4
      rw [show o + q * sz + p - (o + i * sz) = q * sz - i * sz + p from by omega]
      exact h4
    · rw [if_neg c2] at h1
      have : (i + news.length) * sz ≤ q * sz := Nat.mul_le_mul_right _ (by omega)
      rw [Nat.add_mul] at this
      rw [if_neg (by omega), if_neg (by omega)]
      simpa using H q p r v h1 h2
theorem sat_splice {w : World} {sz b o len cap i : Nat} {e : TypeId} {rows news : List (List Value)} (ss : Sat σ D (own sz e (some ⟨b, o, none⟩) len cap rows :: N) w) (h' : ∀ r ∈ news, r.length = sz) (hn : i + news.length ≤ len) :
    ∃ cs : List Value, w.heap[b]? = some (.cells cs.toArray e (0, 0)) ∧ o + len * sz ≤ cs.length ∧ (∀ r ∈ rows, r.length = sz) ∧ RowsAt sz rows cs.toArray o ∧ len ≤ cap ∧
      Sat σ D (own sz e (some ⟨b, o, none⟩) len cap (rows.take i ++ news ++ rows.drop (i + news.length)) :: N) (setB w b (.cells (cs.take (o + i * sz) ++ news.flatten ++ cs.drop (o + i * sz + news.flatten.length)).toArray e (0, 0))) := by
  obtain ⟨z, k, h1, h2, h3, h4, ⟨g1, g2, l1, l2, dj, H, hN⟩⟩ := ss.heap
  obtain ⟨e1, e2, e3, e4⟩ := H
  rcases e4 with ⟨e4, _⟩ | ⟨b', o', cs, e4, e5, e6, e7⟩
  · cases e4
  injection e4 with e4; injection e4 with e8 e9
  subst e8; subst e9
  have hb : w.heap[b]? = some (.cells cs e (0, 0)) := h2 _ _ (l1 _ _ e5)
  have hle : len * sz ≤ cap * sz := Nat.mul_le_mul_right _ e2
  have hf := rows_flat_len h'
  have hle2 : (i + news.length) * sz ≤ len * sz := Nat.mul_le_mul_right _ hn
  rw [Nat.add_mul] at hle2
  have hcs : o + len * sz ≤ cs.toList.length := by rw [Array.length_toList]; omega
  refine ⟨cs.toList, by simpa using hb, hcs, e3, by simpa using e7, e2, ?_⟩
  have s2 : Sat σ D (pt b (.cells cs e (0, 0)) :: N) w := ⟨ss.os, ss.tape, ss.output, z, k, h1, h2, h3, h4, g1, g2, l1, l2, dj, e5, hN⟩
  refine (s2.setB (o' := .cells (cs.toList.take (o + i * sz) ++ news.flatten ++ cs.toList.drop (o + i * sz + news.flatten.length)).toArray e (0, 0)) Upd.here).ent (Ent.imp fun h hp => ?_)
  refine ⟨by simp; omega, e2, fun r' hr' => ?_, .inr ⟨b, o, _, rfl, hp, ?_, rowsAt_splice e3 h' (by omega) (by simpa using e7) (by rw [e1]; exact hcs)⟩⟩
  · rcases List.mem_append.1 hr' with h | h
    · rcases List.mem_append.1 h with h | h
      · exact e3 _ (List.mem_of_mem_take h)
      · exact h' _ h
    · exact e3 _ (List.mem_of_mem_drop h)
  · rw [List.size_toArray, List.length_append, List.length_append, List.length_take, List.length_drop, hf]
    rw [Array.length_toList] at hcs ⊢
    omega
theorem L.appendIn {t e : TypeId} {x y : Operand} {b o len cap i j sz bytes : Nat} {rows : List (List Value)} (hd : Nat.blt d n = true) (hU : P.underlying t = some (.slice e)) (hE : El P e sz bytes)
    (hx : ev K x = some (.slice (some ⟨b, o, none⟩) i cap)) (hy : ev K y = some (.slice (cutA (some ⟨b, o, none⟩) cap j sz) (len - j) (cap - j))) (hM : Pull (own sz e (some ⟨b, o, none⟩) len cap rows) M N)
    (hi : i ≤ j) (hj : j ≤ len) (hl : rows.length = len) (h1 : ∀ u ∈ rows.flatten, u.oneCell' = true)
    (next : TL none P σ n ops Q rest ((d, .slice (some ⟨b, o, none⟩) (i + (len - j)) cap) :: K) D (own sz e (some ⟨b, o, none⟩) len cap (rows.take i ++ rows.drop j ++ rows.drop (i + (len - j))) :: N)) :
    TL none P σ n ops Q (⟨some d, .call { callee := .builtin .append, args := #[x, y], argTypes := #[t, t] }, ty, pos, aft, none⟩ :: rest) K D M :=
  L.valEx hd (fun v D' M' => v = .slice (some ⟨b, o, none⟩) (i + (len - j)) cap ∧ D' = D ∧ M' = own sz e (some ⟨b, o, none⟩) len cap (rows.take i ++ rows.drop j ++ rows.drop (i + (len - j))) :: N) (fun aa w s ss => by
    have ss1 := ss.ent hM
    have hr : ∀ r ∈ rows.drop j, r.length = sz := by
      obtain ⟨y, ly, H⟩ := ss1.own (.head _)
      exact fun r hr => H.2.2.1 r (List.mem_of_mem_drop hr)
    have hdl : (rows.drop j).length = len - j := by rw [List.length_drop, hl]
    obtain ⟨cs, hb, hfit, hrs, hra, hlc, hS⟩ := sat_splice (i := i) (news := rows.drop j) ss1 hr (by omega)
    obtain ⟨ii, z, hii, hz, hsz, hby, hzs⟩ := hE
    have hf := rows_flat_len hr
    rw [hdl] at hf
    have hle2 : (i + (len - j)) * sz ≤ len * sz := Nat.mul_le_mul_right _ (by omega)
    rw [Nat.add_mul] at hle2
    have hfl := rowsAt_flat hrs hra
    have hcut : ∃ p, cutA (some ⟨b, o, none⟩) cap j sz = some p ∧ ∀ q u, (rows.drop j).flatten[q]? = some u → w.cell? (p.add q) = some u := by
      unfold cutA
      by_cases hc : cap = j
      · refine ⟨_, if_pos hc, fun q u hq => ?_⟩
        have : rows.drop j = [] := List.drop_of_length_le (by omega)
        rw [this] at hq; simp at hq
      · refine ⟨_, if_neg hc, fun q u hq => ?_⟩
        have hd2 : rows.flatten[j * sz + q]? = some u := by
          rw [← List.take_append_drop j rows, List.flatten_append, List.getElem?_append_right (by rw [rows_flat_len (sz := sz) (fun r hr => hrs r (List.mem_of_mem_take hr))]; simp; rw [hl, Nat.min_eq_left hj]; omega)]
          rw [rows_flat_len (sz := sz) (fun r hr => hrs r (List.mem_of_mem_take hr)), List.length_take, hl, Nat.min_eq_left hj]
          simpa using hq
        have := hfl _ _ hd2
        show w.cell? ((Addr.add ⟨b, o, none⟩ (j * sz)).add q) = some u
        rw [add_lit, add_lit, cell_of hb, Nat.add_assoc]
        exact this
    obtain ⟨p, hp, hcell⟩ := hcut
    have hrun := run_append_in (P := P) w t ty e ii hU hii b o i cap cs.toArray hb p (len - j) (cap - j) (rows.drop j).flatten (by rw [hf, hsz]) hcell (fun u hu => h1 u (by
      obtain ⟨r, hr, hu⟩ := List.mem_flatten.1 hu
      exact List.mem_flatten.2 ⟨r, List.mem_of_mem_drop hr, hu⟩)) (by omega) (by rw [hf, hsz, List.size_toArray]; omega)
    rw [setRow_setB hb, hsz] at hrun
    rw [hdl] at hS
    refine ⟨_, _, _, _, ?_, ⟨rfl, rfl, rfl⟩, hS⟩
    have ex : aa.eval x = _ := s.eval hx
    have ey : aa.eval y = _ := s.eval hy
    rw [hp] at ey
    simp [execOp, resolve, invoke, builtin, ex, ey, hrun]) (fun v D' M' ⟨e1, e2, e3⟩ => by subst e1; subst e2; subst e3; exact next)
/-- s[l:h:mx] -/
theorem L.sliceMax {t e : TypeId} {x mx : Operand} {lo hi : Option Operand} {a : Option Addr} {len cap l h mm sz : Nat} {k : IntKind} (hd : Nat.blt d n = true) (hU : P.underlying t = some (.slice e)) (hz : Sz P e sz) (hx : ev K x = some (.slice a len cap)) (hlo : Bd K lo 0 l) (hhi : ∃ y k z, hi = some y ∧ ev K y = some (.int k z) ∧ z = (h : Int)) (hmx : ev K mx = some (.int k (mm : Int)))
    (h1 : l ≤ h) (h2 : h ≤ mm) (h3 : mm ≤ cap) (next : TL m P σ n ops Q rest ((d, .slice (cutA a mm l sz) (h - l) (mm - l)) :: K) D M) :
    TL m P σ n ops Q (⟨some d, .slice t x lo hi (some mx), ty, pos, aft, none⟩ :: rest) K D M :=
  L.pureOp hd (fun ρ w s => by
    have e1 := s hx
    have e0 := s hmx
    obtain ⟨y, kk, z, rfl, hy, rfl⟩ := hhi
    have e4 := s hy
    have e2 : (Instr.sliceBounds true len cap (lo.map ρ) (some (.int kk (h : Int))) (some (.int k (mm : Int)))).run P w = .ok (l, h, mm) w := by
      rcases (hlo.val s) with ⟨hl, rfl⟩ | ⟨kl, hl⟩ <;> simp [Instr.sliceBounds, run_sliceBound, h1, h2, h3, hl]
    have e3 := hz w
    simp only [execOp, e1, Option.map_some, e0, e4]
    simp [Instr.sliceAt, run_underlying hU, Instr.slice, e2, e3, cutA]) next
end
end Cv
