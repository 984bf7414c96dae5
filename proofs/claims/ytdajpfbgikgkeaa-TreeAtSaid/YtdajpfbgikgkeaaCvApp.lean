/-
  My own library for walks, a text of it (CvApp): separation logic over the kit's Calls; no statement of this seat stands here.
-/
import Derived.Test.YtdajpfbgikgkeaaCvStr
import Derived.Deep.AppendSrc
set_option linter.unusedVariables false
set_option linter.unusedSimpArgs false
set_option linter.unusedSectionVars false
namespace Cv
open Go
section
variable {P : Program} {σ : World} {n : Nat} {Q : Post} {K : Env} {D M : List Asn} {m : Option (List Asn × List Asn)} {ops : Array Oper} {rest : List Oper} {d : Nat} {ty : TypeId} {pos : String} {aft : Array Edge}

theorem run_append_at (w : World) (t tx ty e : TypeId) (i : TypeInfo) (ht : P.underlying t = some (.slice e)) (hi : P.info? e = some i)
    (g off sLen sCap : Nat) (cur : Array Value) (hg : w.heap[g]? = some (.cells cur e (0, 0))) {x : Value} {m : Nat} {news : List Value} (hs : Go.Src P i.size tx x m news w)
    (hroom : sLen + m ≤ sCap) (hfit : off + sLen * i.size + news.length ≤ cur.size) :
    (Builtin.append_ #[t, tx] ty #[.slice (some ⟨g, off, none⟩) sLen sCap, x]).run P w =
      .ok (.slice (some ⟨g, off, none⟩) (sLen + m) sCap) (w.setRow g (cur.toList.take (off + sLen * i.size) ++ news ++ cur.toList.drop (off + sLen * i.size + news.length)).toArray) := by
  have hst := run_storeCells_at P g (off + sLen * i.size) e news 0 cur w hg (by simpa using hfit) hs.one
  simp only [Nat.add_zero] at hst
  rcases hs.kind with ⟨e', hk⟩ | hk <;> simp [Builtin.append_, run_underlying ht, run_underlying hk, Go.sizeOf, typeInfo, hi, hs.len, hroom, hs.cells, Addr.add_lit, hst]

theorem append_src {t tx e : TypeId} {ty : TypeId} {a : Option Addr} {x : Value} {len cap m sz bytes : Nat} {rows news : List (List Value)} {N : List Asn} {w : World} (hU : P.underlying t = some (.slice e)) (hE : El P e sz bytes)
    (hM : Pull (own sz e a len cap rows) M N) (hs : Go.Src P sz tx x m news.flatten w) (hn : news.length = m) (hr : ∀ r ∈ news, r.length = sz)
    (hb : (len + m) * bytes ≤ 140737488355328) (hb' : len + m ≤ 4611686018427387904) (ss : Sat σ D M w) :
    ∃ a' cap' w', (Builtin.append_ #[t, tx] ty #[.slice a len cap, x]).run P w = .ok (.slice a' (len + m) cap') w' ∧ Sat σ D (own sz e a' (len + m) cap' (rows ++ news) :: N) w' := by
  obtain ⟨i, z, hi, hz, hsz, hby, hzs⟩ := hE
  have ss1 := ss.ent hM
  obtain ⟨y, ly, H⟩ := ss1.own (.head _)
  obtain ⟨r1, r2, r3, r4⟩ := H
  rw [← hsz] at hs
  have hfl : news.flatten.length = m * i.size := by rw [rows_flat_len hr, hn, hsz]
  have fresh : ∀ (olds : List Value) (cp : Nat), olds = rows.flatten → len + m ≤ cp →
      Sat σ D (own sz e (some ⟨w.heap.size, 0, none⟩) (len + m) cp (rows ++ news) :: N) (w.drew.alloc (.cells ((olds ++ news.flatten).toArray ++ Builtin.zeroCells z.cells (cp - (len + m))) e)) := by
    intro olds cp ho hcp
    rw [show (olds ++ news.flatten).toArray = olds.toArray ++ news.flatten.toArray from by simp]
    have s1 := (((ss1.ent (Ent.skip (Ent.refl N))).drew (w.drawn + 1)).alloc (.cells (olds.toArray ++ news.flatten.toArray ++ Builtin.zeroCells z.cells (cp - (len + m))) e))
    refine s1.ent (Ent.imp fun h hh => ?_)
    have hol : olds.length = len * sz := by rw [ho, rows_flat_len r3, r1]
    refine ⟨by simp [r1, hn], hcp, fun r hrr => ?_, .inr ⟨w.heap.size, 0, _, rfl, hh, ?_, rows_append r1 r3 hr (fun j v hv => ?_) (fun j v hv => ?_)⟩⟩
    · exact (List.mem_append.1 hrr).elim (r3 r) (hr r)
    · simp only [Array.size_append, List.size_toArray, hol, hfl, size_zeroCells, hzs, hsz, Nat.zero_add]
      rw [← Nat.add_mul, ← Nat.add_mul]
      exact Nat.mul_le_mul_right _ (by omega)
    · have hj := (List.getElem?_eq_some_iff.1 hv).1
      rw [← ho] at hv hj
      simp only [Nat.zero_add]
      rw [Array.getElem?_append_left (by rw [Array.size_append, List.size_toArray]; omega), Array.getElem?_append_left (by simpa using hj)]
      simpa using hv
    · have hj := (List.getElem?_eq_some_iff.1 hv).1
      simp only [Nat.zero_add]
      rw [Array.getElem?_append_left (by rw [Array.size_append, List.size_toArray, List.size_toArray, hol]; omega), Array.getElem?_append_right (by rw [List.size_toArray, hol]; omega)]
      simpa [hol] using hv
  rcases r4 with ⟨rfl, hcap⟩ | ⟨b, off, cs, rfl, hblk, hfit, hrows⟩
  · -- nil
    have hlen : len = 0 := by omega
    subst hlen
    have hrn : rows = [] := List.length_eq_zero_iff.1 r1
    subst hrn
    subst hcap
    by_cases hm0 : m = 0
    · have hnews : news = [] := List.length_eq_zero_iff.1 (by omega)
      subst hnews; subst hm0
      refine ⟨none, 0, w, ?_, by simpa using ss1⟩
      rcases hs.kind with ⟨e', hk⟩ | hk <;> simp [Builtin.append_, run_underlying hU, run_underlying hk, Go.sizeOf, typeInfo, hi, hs.len, hs.cells]
    · have hrun := run_append_grow_src (P := P) w t tx ty e i z hU hi hz none 0 0 [] (run_firstCells_none _ _ _ _ _) x m news.flatten hs (by omega) (by omega) (growslice_fits (by omega) (by rw [hby]; exact hb))
      exact ⟨_, _, _, hrun, fresh [] (grownCap w (0 + m) 0 e) (by simp) (grownCap_ge w _ _ e)⟩
  · have hbw : w.heap[b]? = some (.cells cs e (0, 0)) := ly _ _ hblk
    have hof : ∀ j u, rows.flatten[j]? = some u → cs[off + j]? = some u := rowsAt_flat r3 hrows
    by_cases hroom : len + m ≤ cap
    · have hfit' : off + len * i.size + news.flatten.length ≤ cs.size := by
        rw [hfl, hsz, Nat.add_assoc, ← Nat.add_mul]
        have := Nat.mul_le_mul_right sz hroom
        omega
      have hrun := run_append_at (P := P) w t tx ty e i hU hi b off len cap cs hbw hs hroom hfit'
      rw [setRow_setB hbw] at hrun
      refine ⟨_, _, _, hrun, ?_⟩
      have s1 : Sat σ D (pt b (.cells cs e (0, 0)) :: N) w := by
        obtain ⟨z', k', a', b', c', d', ⟨g1, g2, l1, l2, d2, hA, hMM⟩⟩ := ss1.heap
        refine ⟨ss1.os, ss1.tape, ss1.output, z', k', a', b', c', d', g1, g2, l1, l2, d2, ?_, hMM⟩
        obtain ⟨_, _, _, q⟩ := hA
        rcases q with ⟨e0, _⟩ | ⟨b2, o2, cs2, e2, hb2, _, _⟩
        · cases e0
        · injection e2 with e2; injection e2 with e3 e4
          subst e3; subst e4
          have := b' _ _ (l1 _ _ hb2)
          rw [show hp w b = w.heap[b]? from rfl, hbw] at this
          cases this
          exact hb2
      refine (s1.setB (o' := .cells (cs.toList.take (off + len * i.size) ++ news.flatten ++ cs.toList.drop (off + len * i.size + news.flatten.length)).toArray e (0, 0)) Upd.here).ent (Ent.imp fun h hh => ?_)
      have hget := fun j => splice_get cs.toList news.flatten (off + len * i.size) j (by simpa using hfit')
      have hol : rows.flatten.length = len * sz := by rw [rows_flat_len r3, r1]
      refine ⟨by simp [r1, hn], hroom, fun r hrr => ?_, .inr ⟨b, off, _, rfl, hh, ?_, rows_append r1 r3 hr (fun j v hv => ?_) (fun j v hv => ?_)⟩⟩
      · exact (List.mem_append.1 hrr).elim (r3 r) (hr r)
      · simp only [List.size_toArray, List.length_append, List.length_take, List.length_drop, Array.length_toList]
        omega
      · have hj := (List.getElem?_eq_some_iff.1 hv).1
        simp only [List.getElem?_toArray]
        rw [hget, if_pos (by rw [hsz]; omega)]
        simpa using hof j v hv
      · have hj := (List.getElem?_eq_some_iff.1 hv).1
        simp only [List.getElem?_toArray]
        rw [hget, if_neg (by rw [hsz]; omega), if_pos (by rw [hsz]; omega)]
        rw [hsz, show off + len * sz + j - (off + len * sz) = j from by omega]
        exact hv
    · have hold : (Builtin.firstCells i.size len (.slice (some ⟨b, off, none⟩) len cap)).run P w.drew = .ok rows.flatten.toArray w.drew :=
        run_firstCells_some (P := P) w.drew i.size len ⟨b, off, none⟩ len cap rows.flatten (by rw [rows_flat_len r3, r1, hsz]) (fun j v hv => by
          have : w.drew.cell? ((⟨b, off, none⟩ : Addr).add j) = w.cell? ((⟨b, off, none⟩ : Addr).add j) := by simp
          rw [this, add_lit, cell_of hbw]; exact hof j v hv)
      have hrun := run_append_grow_src (P := P) w t tx ty e i z hU hi hz (some ⟨b, off, none⟩) len cap rows.flatten hold x m news.flatten hs (by omega) (by omega) (growslice_fits (by omega) (by rw [hby]; exact hb))
      exact ⟨_, _, _, hrun, fresh rows.flatten (grownCap w (len + m) cap e) rfl (grownCap_ge w _ _ e)⟩

theorem yr_cells : ∀ l : List UInt8, byteCells (ByteArray.mk l.toArray) = (l.map yr).flatten
  | [] => rfl
  | b :: l => by
    have := yr_cells l
    simp only [byteCells, List.map_cons, List.flatten_cons, yr, Y] at this ⊢
    rw [← this]; rfl
/-- a string's bytes, appended -/
theorem L.appendS {t tx e : TypeId} {x y : Operand} {a : Option Addr} {len cap : Nat} {l : List UInt8} {rows : List (List Value)} {N : List Asn} (hd : Nat.blt d n = true) (hU : P.underlying t = some (.slice e)) (hV : P.underlying tx = some .string) (hE : El P e 1 1)
    (hx : ev K x = some (.slice a len cap)) (hy : ev K y = some (S l)) (hM : Pull (own 1 e a len cap rows) M N)
    (hb : len + l.length ≤ 140737488355328)
    (next : ∀ a' cap', TL none P σ n ops Q rest ((d, .slice a' (len + l.length) cap') :: K) D (own 1 e a' (len + l.length) cap' (rows ++ l.map yr) :: N)) :
    TL none P σ n ops Q (⟨some d, .call { callee := .builtin .append, args := #[x, y], argTypes := #[t, tx] }, ty, pos, aft, none⟩ :: rest) K D M :=
  L.valEx hd (fun v D' M' => ∃ a' cap', v = .slice a' (len + l.length) cap' ∧ D' = D ∧ M' = own 1 e a' (len + l.length) cap' (rows ++ l.map yr) :: N) (fun aa w s ss => by
    have hsrc : Go.Src P 1 tx (S l) l.length (l.map yr).flatten w := by
      have := Src.ofString (P := P) w hV (ByteArray.mk l.toArray)
      have e1 : (ByteArray.mk l.toArray).size = l.length := by show l.toArray.size = _; simp
      have e2 : byteCells (ByteArray.mk l.toArray) = (l.map yr).flatten := by
        exact yr_cells l
      rw [e1, e2] at this; exact this
    obtain ⟨a', cap', w', hrun, hS⟩ := append_src (ty := ty) hU hE hM hsrc (by simp) (by simp [yr]) (by omega) (by omega) ss
    refine ⟨_, _, _, w', ?_, ⟨a', cap', rfl, rfl, rfl⟩, hS⟩
    have ex : aa.eval x = _ := s.eval hx
    have ey : aa.eval y = _ := s.eval hy
    simp [execOp, resolve, invoke, builtin, ex, ey, hrun]) (fun v D' M' ⟨a', cap', e1, e2, e3⟩ => by subst e1; subst e2; subst e3; exact next a' cap')
end
end Cv
