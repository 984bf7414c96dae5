/-
  My own library for walks (CvSl CvMap CvWord CvStr CvApp): separation logic over the calls of the kit; no statement of this seat stands here.
-/
import Derived.Test.YtncgoodlhmpfcaaGreatCvLa
import Derived.Laws.BytesArg
import Derived.Laws.BytesString
import Derived.Deep.AppendSrc
set_option linter.all false
namespace Cv
open Go

def RowsAt (sz : Nat) (rows : List (List Value)) (c : Array Value) (off : Nat) : Prop := ∀ i j r v, rows[i]? = some r → r[j]? = some v → c[off + i * sz + j]? = some v
def rsl (sz : Nat) (a : Option Addr) (len cap : Nat) (rows : List (List Value)) : Asn := fun h =>
  rows.length = len ∧ len ≤ cap ∧ (∀ r ∈ rows, r.length = sz) ∧ (rows = [] ∨ ∃ b off c t m, a = some ⟨b, off, none⟩ ∧ h b = some (.cells c t m) ∧ RowsAt sz rows c off)
def own (sz : Nat) (e : TypeId) (a : Option Addr) (len cap : Nat) (rows : List (List Value)) : Asn := fun h =>
  rows.length = len ∧ len ≤ cap ∧ (∀ r ∈ rows, r.length = sz) ∧ ((a = none ∧ cap = 0) ∨ ∃ b off cs, a = some ⟨b, off, none⟩ ∧ h b = some (.cells cs e (0, 0)) ∧ off + cap * sz ≤ cs.size ∧ RowsAt sz rows cs off)

theorem rsl_of_own {sz len cap : Nat} {e : TypeId} {a : Option Addr} {rows : List (List Value)} {h : Hp} (H : own sz e a len cap rows h) : rsl sz a len cap rows h := by
  obtain ⟨h1, h2, h3, h4⟩ := H
  refine ⟨h1, h2, h3, ?_⟩
  rcases h4 with ⟨_, rfl⟩ | ⟨b, off, cs, e1, e2, _, e4⟩
  · left; exact List.length_eq_zero_iff.1 (by omega)
  · right; exact ⟨b, off, cs, e, (0, 0), e1, e2, e4⟩
theorem rsl_nil {sz : Nat} {a : Option Addr} {h : Hp} {cap : Nat} : rsl sz a 0 cap [] h := ⟨rfl, Nat.zero_le _, by simp, .inl rfl⟩
theorem own_nil {sz : Nat} {e : TypeId} {h : Hp} : own sz e none 0 0 [] h := ⟨rfl, Nat.le_refl _, by simp, .inl ⟨rfl, rfl⟩⟩

theorem flatten_at {sz : Nat} : ∀ {rows : List (List Value)}, (∀ r ∈ rows, r.length = sz) → ∀ {i j : Nat} {r : List Value} {v : Value}, rows[i]? = some r → r[j]? = some v → rows.flatten[i * sz + j]? = some v
  | [], _, i, _, _, _, h, _ => by simp at h
  | s :: rows, hl, 0, j, r, v, h, k => by
    simp at h; subst h
    have := (List.getElem?_eq_some_iff.1 k).1
    simp only [Nat.zero_mul, Nat.zero_add, List.flatten_cons]
    rw [List.getElem?_append_left this]; exact k
  | s :: rows, hl, i + 1, j, r, v, h, k => by
    simp only [List.getElem?_cons_succ] at h
    have hs : s.length = sz := hl s (by simp)
    simp only [List.flatten_cons]
    rw [List.getElem?_append_right (by rw [hs, Nat.add_mul]; omega)]
    have : (i + 1) * sz + j - s.length = i * sz + j := by rw [hs, Nat.add_mul]; omega
    rw [this]
    exact flatten_at (fun r hr => hl r (by simp [hr])) h k
theorem own_of_cl {sz len b : Nat} {e : TypeId} {cs : List Value} {rows : List (List Value)} (hr : rows.flatten = cs) (hl : rows.length = len) (hs : ∀ r ∈ rows, r.length = sz) {h : Hp} (H : cl b e cs h) :
    own sz e (some ⟨b, 0, none⟩) len len rows h := by
  refine ⟨hl, Nat.le_refl _, hs, .inr ⟨b, 0, cs.toArray, rfl, H, ?_, fun i j r v h1 h2 => ?_⟩⟩
  · subst hr; subst hl
    have : ∀ (rows : List (List Value)), (∀ r ∈ rows, r.length = sz) → rows.flatten.length = rows.length * sz := by
      intro rows
      induction rows with
      | nil => intro _; simp
      | cons r rows ih => intro h; simp [ih (fun r hr => h r (by simp [hr])), h r (by simp), Nat.add_mul, Nat.add_comm]
    simp [this rows hs]
  · subst hr
    simpa using flatten_at hs h1 h2

theorem rsl_cells {sz len cap i : Nat} {a : Option Addr} {rows : List (List Value)} {r : List Value} {h : Hp} (H : rsl sz a len cap rows h) (hr : rows[i]? = some r) : ∃ b o, a = some ⟨b, o, none⟩ ∧ rcs b (o + i * sz) r h := by
  obtain ⟨_, _, _, h4⟩ := H
  rcases h4 with e | ⟨b, off, c, t, m, e1, e2, e3⟩
  · subst e; simp at hr
  · exact ⟨b, off, e1, c, t, m, e2, fun j v hv => e3 i j r v hr hv⟩

def Sz (P : Program) (e : TypeId) (sz : Nat) : Prop := ∀ w, (Go.sizeOf e).run P w = .ok sz w

section
variable {P : Program} {σ : World} {n : Nat} {Q : Post} {K : Env} {D M : List Asn} {m : Option (List Asn × List Asn)} {ops : Array Oper} {rest : List Oper} {d : Nat} {ty : TypeId} {pos : String} {aft : Array Edge}

theorem L.lenSl {t e : TypeId} {x : Operand} {a : Option Addr} {len cap : Nat} (hd : Nat.blt d n = true) (hU : P.underlying t = some (.slice e)) (hx : ev K x = some (.slice a len cap)) (next : TL m P σ n ops Q rest ((d, .int .i64 len) :: K) D M) :
    TL m P σ n ops Q (⟨some d, .call { callee := .builtin .len, args := #[x], argTypes := #[t] }, ty, pos, aft, none⟩ :: rest) K D M :=
  L.pureOp hd (fun ρ w s => by
    have h1 := s hx
    simp [execOp, resolve, h1, invoke, builtin, Builtin.len_, run_underlying hU, goInt, go_sem]) next

theorem L.idxG {t e : TypeId} {x y : Operand} {b o len cap i sz : Nat} {k : IntKind} {iv : Int} (hd : Nat.blt d n = true) (hU : P.underlying t = some (.slice e)) (hz : Sz P e sz) (hx : ev K x = some (.slice (some ⟨b, o, none⟩) len cap)) (hy : ev K y = some (.int k iv))
    (hi : iv = (i : Int)) (hl : i < len) (next : TL m P σ n ops Q rest ((d, .pointer (some ⟨b, o + i * sz, none⟩)) :: K) D M) :
    TL m P σ n ops Q (⟨some d, .indexAddr t x y, ty, pos, aft, none⟩ :: rest) K D M :=
  L.pureOp hd (fun ρ w s => by
    have h1 := s hx
    have h2 := s hy
    subst hi
    simp only [execOp, h1, h2]
    have h3 := hz w
    simp [Instr.indexAt, run_underlying hU, asIntOf, h3, hl, add_lit]) next
theorem L.idx {t e : TypeId} {x y : Operand} {a : Option Addr} {len cap i sz : Nat} {k : IntKind} {iv : Int} {rows : List (List Value)} {r : List Value} (hd : Nat.blt d n = true) (hU : P.underlying t = some (.slice e)) (hz : Sz P e sz) (hx : ev K x = some (.slice a len cap)) (hy : ev K y = some (.int k iv))
    (hm : rsl sz a len cap rows ∈ D) (hi : iv = (i : Int)) (hr : rows[i]? = some r) (next : ∀ b o, TL none P σ n ops Q rest ((d, .pointer (some ⟨b, o, none⟩)) :: K) (rcs b o r :: D) M) :
    TL none P σ n ops Q (⟨some d, .indexAddr t x y, ty, pos, aft, none⟩ :: rest) K D M := fun aa w s ss => by
  obtain ⟨y', l', H⟩ := ss.fact hm
  obtain ⟨b, o, rfl, hc⟩ := rsl_cells H hr
  have hl : i < len := by
    have := (List.getElem?_eq_some_iff.1 hr).1
    have := H.1
    omega
  have s2 : Sat σ (rcs b (o + i * sz) r :: D) M w := ss.derive hm (fun z hz' => by
    obtain ⟨b', o', e1, e2⟩ := rsl_cells hz' hr
    injection e1 with e1; injection e1 with e3 e4
    subst e3; subst e4; exact e2)
  exact L.idxG hd hU hz hx hy hi hl (next b (o + i * sz)) aa w s s2
theorem Cells.ofOwn {b o len cap i sz : Nat} {e : TypeId} {rows : List (List Value)} {r : List Value} (hm : own sz e (some ⟨b, o, none⟩) len cap rows ∈ M) (hr : rows[i]? = some r) : Cells σ D M b (o + i * sz) r := fun w s => by
  obtain ⟨y, l, H⟩ := s.own hm
  obtain ⟨b', o', e1, c, t, m, e2, e3⟩ := rsl_cells (rsl_of_own H) hr
  injection e1 with e1; injection e1 with e4 e5
  subst e4; subst e5
  exact ⟨c, t, m, l _ _ e2, e3⟩
theorem Cells.ofRsl {b o len cap i sz : Nat} {rows : List (List Value)} {r : List Value} (hm : rsl sz (some ⟨b, o, none⟩) len cap rows ∈ D) (hr : rows[i]? = some r) : Cells σ D M b (o + i * sz) r := fun w s => by
  obtain ⟨y, l, H⟩ := s.fact hm
  obtain ⟨b', o', e1, c, t, m, e2, e3⟩ := rsl_cells H hr
  injection e1 with e1; injection e1 with e4 e5
  subst e4; subst e5
  exact ⟨c, t, m, l _ _ e2, e3⟩

/-! ### append -/
def Src (σ : World) (D M : List Asn) (a : Option Addr) (m : Nat) (cs : List Value) : Prop := (m = 0 ∧ cs = []) ∨ ∃ b o, a = some ⟨b, o, none⟩ ∧ Cells σ D M b o cs
theorem Src.ofM {b m : Nat} {t : TypeId} {cs : List Value} (h : cl b t cs ∈ M) : Src σ D M (some ⟨b, 0, none⟩) m cs := .inr ⟨b, 0, rfl, Cells.ofM h (AtN.all rfl)⟩

theorem rows_flat_len {sz : Nat} : ∀ {rows : List (List Value)}, (∀ r ∈ rows, r.length = sz) → rows.flatten.length = rows.length * sz
  | [], _ => by simp
  | r :: rows, h => by simp [rows_flat_len (rows := rows) (fun r hr => h r (by simp [hr])), h r (by simp), Nat.add_mul, Nat.add_comm]
theorem rowsAt_flat {sz off : Nat} {rows : List (List Value)} {c : Array Value} (h : ∀ r ∈ rows, r.length = sz) (H : RowsAt sz rows c off) : ∀ j v, rows.flatten[j]? = some v → c[off + j]? = some v := by
  intro j v hv
  by_cases hz : sz = 0
  · have := rows_flat_len h
    rw [hz, Nat.mul_zero] at this
    have h2 := (List.getElem?_eq_some_iff.1 hv).1
    omega
  · have hlt := (List.getElem?_eq_some_iff.1 hv).1
    rw [rows_flat_len h] at hlt
    have hi : j / sz < rows.length := by
      apply Nat.div_lt_of_lt_mul; rw [Nat.mul_comm]; exact hlt
    have hj : j % sz < sz := Nat.mod_lt _ (by omega)
    have hrl : (rows[j / sz]'hi).length = sz := h _ (List.getElem_mem hi)
    have e1 : rows[j / sz]? = some (rows[j / sz]'hi) := List.getElem?_eq_getElem hi
    have e2 : (rows[j / sz]'hi)[j % sz]? = some ((rows[j / sz]'hi)[j % sz]'(by omega)) := List.getElem?_eq_getElem (by omega)
    have e3 := flatten_at h e1 e2
    have e4 : j / sz * sz + j % sz = j := Nat.div_add_mod' j sz
    rw [e4, hv] at e3
    have e5 := H _ _ _ _ e1 e2
    rw [Nat.add_assoc, e4] at e5
    rw [e5, ← e3]
theorem rowsAt_of_flat {sz off : Nat} {rows : List (List Value)} {c : Array Value} (h : ∀ r ∈ rows, r.length = sz) (H : ∀ j v, rows.flatten[j]? = some v → c[off + j]? = some v) : RowsAt sz rows c off := fun i j r v h1 h2 => by
  rw [Nat.add_assoc]; exact H _ _ (flatten_at h h1 h2)

theorem run_append_in (w : World) (t ty e : TypeId) (i : TypeInfo) (ht : P.underlying t = some (.slice e)) (hi : P.info? e = some i)
    (g off sLen sCap : Nat) (cur : Array Value) (hg : w.heap[g]? = some (.cells cur e (0, 0)))
    (a : Addr) (m c : Nat) (news : List Value) (hl : news.length = m * i.size) (hnews : ∀ j u, news[j]? = some u → w.cell? (a.add j) = some u) (h1 : ∀ u ∈ news, u.oneCell' = true)
    (hroom : sLen + m ≤ sCap) (hfit : off + sLen * i.size + news.length ≤ cur.size) :
    (Builtin.append_ #[t, t] ty #[.slice (some ⟨g, off, none⟩) sLen sCap, .slice (some a) m c]).run P w =
      .ok (.slice (some ⟨g, off, none⟩) (sLen + m) sCap) (w.setRow g (cur.toList.take (off + sLen * i.size) ++ news ++ cur.toList.drop (off + sLen * i.size + news.length)).toArray) := by
  have hf := run_firstCells_some (P := P) w i.size m a m c news hl hnews
  have hst := run_storeCells_at P g (off + sLen * i.size) e news 0 cur w hg (by simpa using hfit) h1
  simp only [Nat.add_zero] at hst
  simp [Builtin.append_, run_underlying ht, Go.sizeOf, typeInfo, hi, Builtin.lenOf, hroom, hf, Addr.add_lit, hst]

def El (P : Program) (e : TypeId) (sz bytes : Nat) : Prop := ∃ i z, P.info? e = some i ∧ i.zero = some z ∧ i.size = sz ∧ i.bytes = bytes ∧ z.cells.size = sz

theorem toList_take_lt {l : List Value} {k j : Nat} (h : j < k) : (l.take k)[j]? = l[j]? := by simp [h]
theorem splice_get (l news : List Value) (o j : Nat) (h : o + news.length ≤ l.length) :
    (l.take o ++ news ++ l.drop (o + news.length))[j]? = if j < o then l[j]? else if j < o + news.length then news[j - o]? else l[j]? := by
  have h1 : (l.take o).length = o := by simp; omega
  by_cases h2 : j < o
  · rw [if_pos h2, List.append_assoc, List.getElem?_append_left (by omega), toList_take_lt h2]
  · rw [if_neg h2]
    by_cases h3 : j < o + news.length
    · rw [if_pos h3, List.getElem?_append_left (by simp; omega), List.getElem?_append_right (by omega), h1]
    · rw [if_neg h3, List.getElem?_append_right (by simp; omega)]
      simp only [List.length_append, h1, List.getElem?_drop]
      congr 1; omega

theorem rows_append {sz off len : Nat} {rows news : List (List Value)} {c : Array Value} (hl : rows.length = len) (h : ∀ r ∈ rows, r.length = sz) (h' : ∀ r ∈ news, r.length = sz)
    (H1 : ∀ j v, rows.flatten[j]? = some v → c[off + j]? = some v) (H2 : ∀ j v, news.flatten[j]? = some v → c[off + len * sz + j]? = some v) : RowsAt sz (rows ++ news) c off :=
  rowsAt_of_flat (fun r hr => (List.mem_append.1 hr).elim (h r) (h' r)) (fun j v hv => by
    rw [List.flatten_append] at hv
    have hlen := rows_flat_len h
    by_cases hj : j < rows.flatten.length
    · rw [List.getElem?_append_left hj] at hv; exact H1 j v hv
    · rw [List.getElem?_append_right (by omega)] at hv
      have := H2 _ v hv
      rw [hlen, hl] at this
      rw [show off + j = off + len * sz + (j - len * sz) from by rw [hlen, hl] at hj; omega]
      exact this)

theorem append_any {t e : TypeId} {ty : TypeId} {a a2 : Option Addr} {len cap m c2 sz bytes : Nat} {rows news : List (List Value)} {N : List Asn} {w : World} (hU : P.underlying t = some (.slice e)) (hE : El P e sz bytes)
    (hM : Pull (own sz e a len cap rows) M N) (hs : Src σ D M a2 m news.flatten) (hn : news.length = m) (hr : ∀ r ∈ news, r.length = sz) (h1 : ∀ u ∈ news.flatten, u.oneCell' = true)
    (hb : (len + m) * bytes ≤ 140737488355328) (hb' : len + m ≤ 4611686018427387904) (ss : Sat σ D M w) :
    ∃ a' cap' w', (Builtin.append_ #[t, t] ty #[.slice a len cap, .slice a2 m c2]).run P w = .ok (.slice a' (len + m) cap') w' ∧ Sat σ D (own sz e a' (len + m) cap' (rows ++ news) :: N) w' := by
  obtain ⟨i, z, hi, hz, hsz, hby, hzs⟩ := hE
  have ss1 := ss.ent hM
  obtain ⟨y, ly, H⟩ := ss1.own (.head _)
  obtain ⟨r1, r2, r3, r4⟩ := H
  have hfl : news.flatten.length = m * i.size := by rw [rows_flat_len hr, hn, hsz]
  -- the source's cells
  have hsrc : ∀ (w1 : World), (∀ b o, w1.cell? ⟨b, o, none⟩ = w.cell? ⟨b, o, none⟩) → m ≠ 0 → ∃ ad, a2 = some ad ∧ ∀ j u, news.flatten[j]? = some u → w1.cell? (ad.add j) = some u := by
    intro w1 hw1 hm
    rcases hs with ⟨h0, _⟩ | ⟨b, o, e1, hc⟩
    · exact absurd h0 hm
    · refine ⟨⟨b, o, none⟩, e1, fun j u hu => ?_⟩
      obtain ⟨c, t', mk, hb1, hb2⟩ := hc w ss
      rw [add_lit, hw1, cell_of hb1]
      exact hb2 j u hu
  by_cases hm0 : m = 0
  · -- nothing is appended
    have hnews : news = [] := List.length_eq_zero_iff.1 (by omega)
    subst hnews
    subst hm0
    refine ⟨a, cap, w, ?_, by simpa using ss1⟩
    have hf : (Builtin.firstCells i.size 0 (.slice a2 0 c2)).run P w = .ok #[] w := by
      cases a2 with
      | none => exact run_firstCells_none (P := P) w _ _ _ _
      | some ad => exact run_firstCells_some (P := P) w i.size 0 ad 0 c2 [] (by simp) (by simp)
    have hc : len ≤ cap := r2
    cases a with
    | none => simp [Builtin.append_, run_underlying hU, Go.sizeOf, typeInfo, hi, Builtin.lenOf, hc, hf]
    | some ad => simp [Builtin.append_, run_underlying hU, Go.sizeOf, typeInfo, hi, Builtin.lenOf, hc, hf, storeCells]
  · obtain ⟨ad, rfl, hcells⟩ := hsrc w (fun _ _ => rfl) hm0
    -- the new row, where a new block is made
    have fresh : ∀ (olds : List Value) (cp : Nat), olds = rows.flatten → len + m ≤ cp →
        Sat σ D (own sz e (some ⟨w.heap.size, 0, none⟩) (len + m) cp (rows ++ news) :: N) (w.drew.alloc (.cells (olds.toArray ++ news.flatten.toArray ++ Builtin.zeroCells z.cells (cp - (len + m))) e)) := by
      intro olds cp ho hcp
      have s1 := (((ss1.ent (Ent.skip (Ent.refl N))).drew (w.drawn + 1)).alloc (.cells (olds.toArray ++ news.flatten.toArray ++ Builtin.zeroCells z.cells (cp - (len + m))) e))
      refine s1.ent (Ent.imp fun h hh => ?_)
      have hol : olds.length = len * sz := by rw [ho, rows_flat_len r3, r1]
      refine ⟨by simp [r1, hn], hcp, fun r hrr => ?_, .inr ⟨w.heap.size, 0, _, rfl, hh, ?_, rows_append r1 r3 hr (fun j v hv => ?_) (fun j v hv => ?_)⟩⟩
      · exact (List.mem_append.1 hrr).elim (r3 r) (hr r)
      · simp only [Array.size_append, List.size_toArray, hol, hfl, size_zeroCells, hzs, hsz, Nat.zero_add]
        rw [← Nat.add_mul, ← Nat.add_mul]
        exact Nat.mul_le_mul_right _ (by omega)
      · have hj := (List.getElem?_eq_some_iff.1 hv).1
        rw [← ho] at hv hj
        simp only [Nat.zero_add]
        rw [Array.getElem?_append_left (by rw [Array.size_append, List.size_toArray]; omega), Array.getElem?_append_left (by simpa using hj)]
        simpa using hv
      · have hj := (List.getElem?_eq_some_iff.1 hv).1
        simp only [Nat.zero_add]
        rw [Array.getElem?_append_left (by rw [Array.size_append, List.size_toArray, List.size_toArray, hol]; omega), Array.getElem?_append_right (by rw [List.size_toArray, hol]; omega)]
        simpa [hol] using hv
    rcases r4 with ⟨rfl, hcap⟩ | ⟨b, off, cs, rfl, hblk, hfit, hrows⟩
    · -- nil
      have hlen : len = 0 := by omega
      subst hlen
      have hrn : rows = [] := List.length_eq_zero_iff.1 r1
      subst hrn
      subst hcap
      have hrun := run_append_nil (P := P) w t ty e i z hU hi hz ad m c2 news.flatten hfl hcells (by omega) (by omega) (by rw [hby]; rw [Nat.zero_add] at hb; omega)
      have := fresh [] (grownCap w m 0 e) (by simp) (by have := grownCap_ge w m 0 e; omega)
      refine ⟨_, _, _, ?_, this⟩
      rw [hrun]
      simp
    · have hbw : w.heap[b]? = some (.cells cs e (0, 0)) := ly _ _ hblk
      have hof : ∀ j u, rows.flatten[j]? = some u → cs[off + j]? = some u := rowsAt_flat r3 hrows
      by_cases hroom : len + m ≤ cap
      · have hfit' : off + len * i.size + news.flatten.length ≤ cs.size := by
          rw [hfl, hsz, Nat.add_assoc, ← Nat.add_mul]
          have := Nat.mul_le_mul_right sz hroom
          omega
        have hrun := run_append_in (P := P) w t ty e i hU hi b off len cap cs hbw ad m c2 news.flatten hfl hcells h1 hroom hfit'
        rw [setRow_setB hbw] at hrun
        refine ⟨_, _, _, hrun, ?_⟩
        -- the block is taken out of what is owned
        have s1 : Sat σ D (pt b (.cells cs e (0, 0)) :: N) w := by
          obtain ⟨z', k', a', b', c', d', ⟨g1, g2, l1, l2, d2, hA, hMM⟩⟩ := ss1.heap
          refine ⟨ss1.os, ss1.tape, ss1.output, z', k', a', b', c', d', g1, g2, l1, l2, d2, ?_, hMM⟩
          obtain ⟨_, _, _, q⟩ := hA
          rcases q with ⟨e0, _⟩ | ⟨b2, o2, cs2, e2, hb2, _, _⟩
          · cases e0
          · injection e2 with e2; injection e2 with e3 e4
            subst e3; subst e4
            have := b' _ _ (l1 _ _ hb2)
            rw [show hp w b = w.heap[b]? from rfl, hbw] at this
            cases this
            exact hb2
        refine (s1.setB (o' := .cells (cs.toList.take (off + len * i.size) ++ news.flatten ++ cs.toList.drop (off + len * i.size + news.flatten.length)).toArray e (0, 0)) Upd.here).ent (Ent.imp fun h hh => ?_)
        have hget := fun j => splice_get cs.toList news.flatten (off + len * i.size) j (by simpa using hfit')
        have hol : rows.flatten.length = len * sz := by rw [rows_flat_len r3, r1]
        refine ⟨by simp [r1, hn], hroom, fun r hrr => ?_, .inr ⟨b, off, _, rfl, hh, ?_, rows_append r1 r3 hr (fun j v hv => ?_) (fun j v hv => ?_)⟩⟩
        · exact (List.mem_append.1 hrr).elim (r3 r) (hr r)
        · simp only [List.size_toArray, List.length_append, List.length_take, List.length_drop, Array.length_toList]
          omega
        · have hj := (List.getElem?_eq_some_iff.1 hv).1
          simp only [List.getElem?_toArray]
          rw [hget, if_pos (by rw [hsz]; omega)]
          simpa using hof j v hv
        · have hj := (List.getElem?_eq_some_iff.1 hv).1
          simp only [List.getElem?_toArray]
          rw [hget, if_neg (by rw [hsz]; omega), if_pos (by rw [hsz]; omega)]
          rw [hsz, show off + len * sz + j - (off + len * sz) = j from by omega]
          exact hv
      · have holds : ∀ j v, rows.flatten[j]? = some v → w.cell? ((⟨b, off, none⟩ : Addr).add j) = some v := fun j v hv => by
          rw [add_lit, cell_of hbw]; exact hof j v hv
        have hrun := run_append_grow (P := P) w t ty e i z hU hi hz ⟨b, off, none⟩ len cap rows.flatten (by rw [rows_flat_len r3, r1, hsz]) holds ad m c2 news.flatten hfl hcells (by omega) (by omega) (growslice_fits (by omega) (by rw [hby]; exact hb))
        have := fresh rows.flatten (grownCap w (len + m) cap e) rfl (grownCap_ge w _ _ e)
        exact ⟨_, _, _, hrun, this⟩

theorem L.append {t e : TypeId} {x y : Operand} {a a2 : Option Addr} {len cap m c2 sz bytes : Nat} {rows news : List (List Value)} {N : List Asn} (hd : Nat.blt d n = true) (hU : P.underlying t = some (.slice e)) (hE : El P e sz bytes)
    (hx : ev K x = some (.slice a len cap)) (hy : ev K y = some (.slice a2 m c2)) (hM : Pull (own sz e a len cap rows) M N) (hs : Src σ D M a2 m news.flatten) (hn : news.length = m) (hr : ∀ r ∈ news, r.length = sz) (h1 : ∀ u ∈ news.flatten, u.oneCell' = true)
    (hb : (len + m) * bytes ≤ 140737488355328) (hb' : len + m ≤ 4611686018427387904)
    (next : ∀ a' cap', TL none P σ n ops Q rest ((d, .slice a' (len + m) cap') :: K) D (own sz e a' (len + m) cap' (rows ++ news) :: N)) :
    TL none P σ n ops Q (⟨some d, .call { callee := .builtin .append, args := #[x, y], argTypes := #[t, t] }, ty, pos, aft, none⟩ :: rest) K D M :=
  L.valEx hd (fun v D' M' => ∃ a' cap', v = .slice a' (len + m) cap' ∧ D' = D ∧ M' = own sz e a' (len + m) cap' (rows ++ news) :: N) (fun aa w s ss => by
    obtain ⟨a', cap', w', hrun, hS⟩ := append_any (c2 := c2) (ty := ty) hU hE hM hs hn hr h1 hb hb' ss
    refine ⟨_, _, _, w', ?_, ⟨a', cap', rfl, rfl, rfl⟩, hS⟩
    have ex : aa.eval x = _ := s.eval hx
    have ey : aa.eval y = _ := s.eval hy
    simp [execOp, resolve, invoke, builtin, ex, ey, hrun]) (fun v D' M' ⟨a', cap', e1, e2, e3⟩ => by subst e1; subst e2; subst e3; exact next a' cap')
theorem L.append1 {t e : TypeId} {x y : Operand} {a : Option Addr} {b len cap sz bytes : Nat} {rows : List (List Value)} {cs : List Value} {tb : TypeId} {N : List Asn} (hd : Nat.blt d n = true) (hU : P.underlying t = some (.slice e)) (hE : El P e sz bytes)
    (hx : ev K x = some (.slice a len cap)) (hy : ev K y = some (.slice (some ⟨b, 0, none⟩) 1 1)) (hM : Pull (own sz e a len cap rows) M N) (hs : cl b tb cs ∈ M) (hr : cs.length = sz) (h1 : ∀ u ∈ cs, u.oneCell' = true)
    (hb : (len + 1) * bytes ≤ 140737488355328) (hb' : len + 1 ≤ 4611686018427387904)
    (next : ∀ a' cap', TL none P σ n ops Q rest ((d, .slice a' (len + 1) cap') :: K) D (own sz e a' (len + 1) cap' (rows ++ [cs]) :: N)) :
    TL none P σ n ops Q (⟨some d, .call { callee := .builtin .append, args := #[x, y], argTypes := #[t, t] }, ty, pos, aft, none⟩ :: rest) K D M :=
  L.append hd hU hE hx hy hM (news := [cs]) (by simpa using Src.ofM hs) rfl (by simpa using hr) (by simpa using h1) hb hb' next
theorem T.rslLen {G : Act → World → Prop} {a : Option Addr} {len cap sz : Nat} {rows : List (List Value)} (hm : rsl sz a len cap rows ∈ D) (next : rows.length = len → T σ n G K D M) : T σ n G K D M :=
  T.fact hm (fun _ h => h.1) next
theorem T.ownRsl {G : Act → World → Prop} {a : Option Addr} {len cap sz : Nat} {e : TypeId} {rows : List (List Value)} {N : List Asn} (hM : Pull (own sz e a len cap rows) M N) (next : T σ n G K (rsl sz a len cap rows :: D) N) : T σ n G K D M :=
  T.freeze hM (T.derive (List.Mem.head _) (fun _ h => rsl_of_own h) (fun a w s t => next a w s (t.facts (SubD.cons (List.Mem.head _) (SubD.skip (SubD.skip (SubD.refl _))) ))))
theorem T.toOwn {G : Act → World → Prop} {b len sz : Nat} {e : TypeId} {cs : List Value} {rows : List (List Value)} {N : List Asn} (hM : Pull (cl b e cs) M N) (hr : rows.flatten = cs) (hl : rows.length = len) (hs : ∀ r ∈ rows, r.length = sz)
    (next : T σ n G K D (own sz e (some ⟨b, 0, none⟩) len len rows :: N)) : T σ n G K D M := fun a w s t => next a w s ((t.ent hM).ent (Ent.imp fun _ hh => own_of_cl hr hl hs hh))
theorem T.newOwn {G : Act → World → Prop} {sz : Nat} {e : TypeId} (next : T σ n G K D (own sz e none 0 0 [] :: M)) : T σ n G K D M := fun a w s t => by
  obtain ⟨z, h, x1, x2, x3, x4, x5⟩ := t.heap
  exact next a w s ⟨t.os, t.tape, t.output, z, h, x1, x2, x3, x4, (fun _ => none), h, (fun _ _ e => by cases e), Hp.le.refl _, fun _ => .inl rfl, own_nil, x5⟩
theorem L.toOwn {l : List Oper} {b len sz : Nat} {e : TypeId} {cs : List Value} {rows : List (List Value)} {N : List Asn} (hM : Pull (cl b e cs) M N) (hr : rows.flatten = cs) (hl : rows.length = len) (hs : ∀ r ∈ rows, r.length = sz)
    (next : TL none P σ n ops Q l K D (own sz e (some ⟨b, 0, none⟩) len len rows :: N)) : TL none P σ n ops Q l K D M := T.toOwn hM hr hl hs next
theorem L.newOwn {l : List Oper} {sz : Nat} {e : TypeId} (next : TL none P σ n ops Q l K D (own sz e none 0 0 [] :: M)) : TL none P σ n ops Q l K D M := T.newOwn next

end
theorem bu_of {P : Program} {t : TypeId} {z : Value} {zs : List Value} {fields : Array Go.Field} {places : List (Nat × Nat)} (hU : P.underlying t = some (.struct fields)) (hz : ∀ w, (zeroValue t).run P w = .ok z w) (hzs : z.cells = zs.toArray)
    (hp : ∀ w, (fields.mapM (fun f => Prod.mk f.offset <$> Go.sizeOf f.type) : Sem (Array (Nat × Nat))).run P w = .ok places.toArray w) : Bu P t zs (fun (i : Nat) => places[i]?) := fun parts w cs h => by
  have e : (fun (i : Nat) => places.toArray[i]?) = (fun (i : Nat) => places[i]?) := by funext i; simp
  simp [Instr.build, hz, run_underlying hU, hp, hzs, e, h]
theorem bs_of {P : Program} {t e : TypeId} {k : Nat} {z : Value} {zs : List Value} (hU : P.underlying t = some (.slice e)) (hs : ∀ w, (Go.sizeOf e).run P w = .ok k w) (hz : ∀ w, (zeroValue e).run P w = .ok z w) (hzs : z.cells = zs.toArray) (hk : zs.length = k) (hk0 : 0 < k) : Bs P t e k zs := fun len parts w cs hl h => by
  have e1 : ¬ (16777216 < len * k) := by omega
  by_cases h0 : len * k = 0
  · have hlen : len = 0 := by
      rcases Nat.mul_eq_zero.1 h0 with q | q
      · exact q
      · omega
    subst hlen
    simp [Instr.buildSlice, run_underlying hU, hs, newRow]
    simp at h
    rw [show (Array.map (fun x => (default : Value)) (Array.range 0)) = #[] from by simp [Array.range_zero'], h]
    simp [newObj, Sem.run]
  · have e2 : (Array.range (len * k)).map (fun x => z.cells[x % z.cells.size]!) = ((List.replicate len zs).flatten).toArray := by
      rw [hzs]
      apply Array.ext
      · simp [hk]
      · intro i h1 h2
        have hi : i < len * k := by simpa using h1
        simp only [Array.getElem_map, Array.getElem_range, List.size_toArray, hk, List.getElem_toArray]
        have hj : i % k < k := Nat.mod_lt _ hk0
        have q := flatten_at (sz := k) (rows := List.replicate len zs) (by simp [hk]) (i := i / k) (j := i % k) (r := zs) (v := zs[i % k]'(by omega)) (by rw [List.getElem?_replicate, if_pos (by apply Nat.div_lt_of_lt_mul; rw [Nat.mul_comm]; exact hi)]) (by simp [hk, hj])
        rw [Nat.div_add_mod'] at q
        have q2 := (List.getElem?_eq_some_iff.1 q).2
        rw [q2]
        simp [hk, hj]
    simp [Instr.buildSlice, run_underlying hU, hs, hz, newRow, e1, h0, e2, h]
end Cv
namespace Cv
open Go

section lists
variable {κ ν : Type} [DecidableEq κ]
def look : List (κ × ν) → κ → Option ν
  | [], _ => none
  | (k', v) :: l, k => if k' = k then some v else look l k
def put : List (κ × ν) → κ → ν → List (κ × ν)
  | [], k, v => [(k, v)]
  | (k', u) :: l, k, v => if k' = k then (k, v) :: l else (k', u) :: put l k v
def del : List (κ × ν) → κ → List (κ × ν)
  | [], _ => []
  | (k', u) :: l, k => if k' = k then l else (k', u) :: del l k
def lookI : List (κ × ν) → κ → Nat → Option (Nat × ν)
  | [], _, _ => none
  | (k', v) :: l, k, i => if k' = k then some (i, v) else lookI l k (i + 1)
theorem lookI_none {l : List (κ × ν)} {k : κ} : ∀ {i : Nat}, look l k = none → lookI l k i = none := by
  induction l with
  | nil => intro i _; rfl
  | cons p l ih =>
    intro i h
    obtain ⟨k', v⟩ := p
    simp only [look, lookI] at h ⊢
    split at h
    · cases h
    · rename_i hne; rw [if_neg hne]; exact ih h
theorem lookI_some {l : List (κ × ν)} {k : κ} {v : ν} : ∀ {i : Nat}, look l k = some v → ∃ j, lookI l k i = some (i + j, v) ∧ l[j]? = some (k, v) ∧ (∀ u, put l k u = l.set j (k, u)) ∧ del l k = l.eraseIdx j := by
  induction l with
  | nil => intro i h; cases h
  | cons p l ih =>
    intro i h
    obtain ⟨k', u⟩ := p
    simp only [look] at h
    by_cases e : k' = k
    · rw [if_pos e] at h
      cases h
      subst e
      exact ⟨0, by simp [lookI], by simp, fun u => by simp [put], by simp [del]⟩
    · rw [if_neg e] at h
      obtain ⟨j, h1, h2, h3, h4⟩ := ih (i := i + 1) h
      exact ⟨j + 1, by simp only [lookI, if_neg e, h1]; congr 2; omega, by simpa using h2, fun w => by simp [put, e, h3], by simp [del, e, h4]⟩
theorem put_none {l : List (κ × ν)} {k : κ} {v : ν} (h : look l k = none) : put l k v = l ++ [(k, v)] := by
  induction l with
  | nil => rfl
  | cons p l ih =>
    obtain ⟨k', u⟩ := p
    simp only [look] at h
    split at h
    · cases h
    · rename_i hne; simp [put, hne, ih h]
theorem del_none {l : List (κ × ν)} {k : κ} (h : look l k = none) : del l k = l := by
  induction l with
  | nil => rfl
  | cons p l ih =>
    obtain ⟨k', u⟩ := p
    simp only [look] at h
    split at h
    · cases h
    · rename_i hne; simp [del, hne, ih h]
theorem look_put {l : List (κ × ν)} {k k' : κ} {v : ν} : look (put l k v) k' = if k' = k then some v else look l k' := by
  induction l with
  | nil => simp only [put, look]; by_cases e : k = k' <;> simp [e, eq_comm]
  | cons p l ih =>
    obtain ⟨k1, u⟩ := p
    simp only [put]
    by_cases e : k1 = k
    · subst e
      simp only [if_true, look]
      by_cases e2 : k1 = k'
      · simp [e2]
      · simp [e2, Ne.symm e2]
    · simp only [if_neg e, look, ih]
      by_cases e2 : k1 = k'
      · subst e2; simp [e]
      · simp [e2]
theorem mem_of_look {l : List (κ × ν)} {k : κ} {v : ν} (h : look l k = some v) : (k, v) ∈ l := by
  induction l with
  | nil => cases h
  | cons p l ih =>
    obtain ⟨k', u⟩ := p
    simp only [look] at h
    split at h
    · rename_i e; cases h; subst e; simp
    · simp [ih h]
theorem look_none_iff {l : List (κ × ν)} {k : κ} : look l k = none ↔ k ∉ l.map Prod.fst := by
  induction l with
  | nil => simp [look]
  | cons p l ih =>
    obtain ⟨k', u⟩ := p
    simp only [look, List.map_cons, List.mem_cons, not_or]
    by_cases e : k' = k
    · simp [e]
    · simp [e, ih, Ne.symm e]
theorem keys_put {l : List (κ × ν)} {k : κ} {v : ν} : (put l k v).map Prod.fst = if k ∈ l.map Prod.fst then l.map Prod.fst else l.map Prod.fst ++ [k] := by
  induction l with
  | nil => simp [put]
  | cons p l ih =>
    obtain ⟨k', u⟩ := p
    simp only [put, List.map_cons, List.mem_cons]
    by_cases e : k' = k
    · simp [e]
    · simp only [if_neg e, List.map_cons, ih, Ne.symm e, false_or]
      split <;> simp
theorem nodup_put {l : List (κ × ν)} {k : κ} {v : ν} (h : (l.map Prod.fst).Nodup) : ((put l k v).map Prod.fst).Nodup := by
  rw [keys_put]
  split
  · exact h
  · rename_i hk
    refine List.nodup_append.2 ⟨h, by simp, fun a ha b hb => ?_⟩
    simp at hb; subst hb; intro e; subst e; exact hk ha
theorem keys_del_sub {l : List (κ × ν)} {k : κ} : ∀ {x}, x ∈ (del l k).map Prod.fst → x ∈ l.map Prod.fst := by
  induction l with
  | nil => intro x h; exact h
  | cons p l ih =>
    intro x h
    obtain ⟨k', u⟩ := p
    simp only [del] at h
    split at h
    · simp only [List.map_cons, List.mem_cons]; exact .inr h
    · simp only [List.map_cons, List.mem_cons] at h ⊢
      rcases h with h | h
      · exact .inl h
      · exact .inr (ih h)
theorem nodup_del {l : List (κ × ν)} {k : κ} (h : (l.map Prod.fst).Nodup) : ((del l k).map Prod.fst).Nodup := by
  induction l with
  | nil => simp [del]
  | cons p l ih =>
    obtain ⟨k', u⟩ := p
    simp only [List.map_cons, List.nodup_cons] at h
    simp only [del]
    split
    · exact h.2
    · simp only [List.map_cons, List.nodup_cons]
      exact ⟨fun hm => h.1 (keys_del_sub hm), ih h.2⟩
end lists

def mp {κ ν : Type} (b : Nat) (kenc : κ → Value) (venc : ν → Value) (l : List (κ × ν)) : Asn := fun h =>
  ∃ es clock, h b = some (.map es clock) ∧ es.toList.map (fun e => (e.key, e.val)) = l.map (fun p => (kenc p.1, venc p.2)) ∧ (l.map Prod.fst).Nodup ∧
    (es.toList.map (·.born)).Nodup ∧ ∀ e ∈ es.toList, e.born < clock

structure KeyT {κ : Type} [DecidableEq κ] (P : Program) (t : TypeId) (kenc : κ → Value) : Prop where
  check : ∀ e k w, (Instr.checkKey e 10000 t (kenc k)).run P w = .ok () w
  find : ∀ {ν : Type} (venc : ν → Value) k (es : List MapEntry) (l : List (κ × ν)) w, es.map (fun e => (e.key, e.val)) = l.map (fun p => (kenc p.1, venc p.2)) →
    (Instr.findKey t (kenc k) es).run P w = .ok ((lookI l k 0).map fun p => (p.1, venc p.2)) w
  same : ∀ k, Instr.sameBits 10000 (kenc k) (kenc k) = true

def iK (n : Int) : Value := .int .i64 n
theorem keyT_int {P : Program} {t : TypeId} {q : IntKind} (ht : P.underlying t = some (.int q)) : KeyT P t (fun n : Int => .int q n) where
  check e k w := by rw [show (10000 : Nat) = 9999 + 1 from rfl, Instr.checkKey]; simp [run_underlying ht]
  find venc k es l w h := by
    have key : ∀ (es : List MapEntry) (l : List (Int × _)) (i : Nat), es.map (fun e => (e.key, e.val)) = l.map (fun p => (Value.int q p.1, venc p.2)) →
        Instr.findNow (.int q) (.int q k) es i = some ((lookI l k i).map fun p => (p.1, venc p.2)) := by
      intro es
      induction es with
      | nil => intro l i h; cases l with
        | nil => rfl
        | cons p l => simp at h
      | cons e es ih => intro l i h; cases l with
        | nil => simp at h
        | cons p l =>
          obtain ⟨k', v⟩ := p
          simp only [List.map_cons, List.cons.injEq, Prod.mk.injEq] at h
          obtain ⟨⟨h1, h2⟩, h3⟩ := h
          simp only [Instr.findNow, h1, Instr.sameNow, lookI, if_true]
          by_cases e1 : k' = k
          · simp [e1, h2]
          · have : (k == k') = false := by simp; exact fun h => e1 h.symm
            simp only [this, if_neg e1]
            exact ih l (i + 1) h3
    simp [Instr.findKey, run_underlying ht, key es l 0 h]
  same k := by rw [show (10000 : Nat) = 9999 + 1 from rfl]; simp [Instr.sameBits]

section
variable {P : Program} {σ : World} {n : Nat} {Q : Post} {K : Env} {D M : List Asn} {m : Option (List Asn × List Asn)} {ops : Array Oper} {rest : List Oper} {d : Nat} {ty : TypeId} {pos : String} {aft : Array Edge}
variable {κ ν : Type} [DecidableEq κ] {kenc : κ → Value} {venc : ν → Value}

theorem run_lookup {t kt et : TypeId} {b : Nat} {k : κ} {l : List (κ × ν)} {w : World} {z : Value} {ok : Bool} {es : Array MapEntry} {clock : Nat} (hU : P.underlying t = some (.map kt et)) (hK : KeyT P kt kenc) (hz : ∀ w, (zeroValue et).run P w = .ok z w)
    (hb : w.heap[b]? = some (.map es clock)) (he : es.toList.map (fun e => (e.key, e.val)) = l.map (fun p => (kenc p.1, venc p.2))) :
    (Instr.lookup t (.map (some b)) (kenc k) ok).run P w = .ok (if ok then .tuple #[((look l k).map venc).getD z, .bool (look l k).isSome] else ((look l k).map venc).getD z) w := by
  have h1 := hK.check (es.isEmpty) k w
  have h2 := hK.find venc k es.toList l w he
  have hg : (getObj b).run P w = .ok (.map es clock) w := by simp [getObj, Sem.run, hb]
  cases hl : look l k with
  | none =>
    rw [lookI_none hl] at h2
    simp [Instr.lookup, run_underlying hU, hg, h1, h2, hz]
  | some v =>
    obtain ⟨j, h3, _⟩ := lookI_some (i := 0) hl
    rw [h3] at h2
    simp [Instr.lookup, run_underlying hU, hg, h1, h2]
omit [DecidableEq κ] in
theorem mp_run {b : Nat} {l : List (κ × ν)} {w : World} (h : Sat σ D M w) (hm : mp b kenc venc l ∈ M) : ∃ es clock, w.heap[b]? = some (.map es clock) ∧ es.toList.map (fun e => (e.key, e.val)) = l.map (fun p => (kenc p.1, venc p.2)) := by
  obtain ⟨y, ly, es, clock, h1, h2, _⟩ := h.own hm
  exact ⟨es, clock, ly _ _ h1, h2⟩
theorem L.lookupS {t kt et : TypeId} {x y : Operand} {b : Nat} {k : κ} {l : List (κ × ν)} {z : Value} {v : ν} (hd : Nat.blt d n = true) (hU : P.underlying t = some (.map kt et)) (hK : KeyT P kt kenc) (hz : ∀ w, (zeroValue et).run P w = .ok z w)
    (hx : ev K x = some (.map (some b))) (hy : ev K y = some (kenc k)) (hm : mp b kenc venc l ∈ M) (hl : look l k = some v)
    (next : TL m P σ n ops Q rest ((d, .tuple #[venc v, .bool true]) :: K) D M) : TL m P σ n ops Q (⟨some d, .lookup t x y true, ty, pos, aft, none⟩ :: rest) K D M :=
  L.quiet hd (fun a w s ss => by
    obtain ⟨es, clock, h1, h2⟩ := mp_run ss hm
    have h3 := run_lookup (ok := true) (k := k) hU hK hz h1 h2
    have ex : a.eval x = _ := s.eval hx
    have ey : a.eval y = _ := s.eval hy
    simp only [execOp, ex, ey]
    simp [h3, hl]) next
theorem L.lookupN {t kt et : TypeId} {x y : Operand} {b : Nat} {k : κ} {l : List (κ × ν)} {z : Value} (hd : Nat.blt d n = true) (hU : P.underlying t = some (.map kt et)) (hK : KeyT P kt kenc) (hz : ∀ w, (zeroValue et).run P w = .ok z w)
    (hx : ev K x = some (.map (some b))) (hy : ev K y = some (kenc k)) (hm : mp b kenc venc l ∈ M) (hl : look l k = none)
    (next : TL m P σ n ops Q rest ((d, .tuple #[z, .bool false]) :: K) D M) : TL m P σ n ops Q (⟨some d, .lookup t x y true, ty, pos, aft, none⟩ :: rest) K D M :=
  L.quiet hd (fun a w s ss => by
    obtain ⟨es, clock, h1, h2⟩ := mp_run ss hm
    have h3 := run_lookup (ok := true) (k := k) hU hK hz h1 h2
    have ex : a.eval x = _ := s.eval hx
    have ey : a.eval y = _ := s.eval hy
    simp only [execOp, ex, ey]
    simp [h3, hl]) next
theorem L.lookup1 {t kt et : TypeId} {x y : Operand} {b : Nat} {k : κ} {l : List (κ × ν)} {z : Value} (hd : Nat.blt d n = true) (hU : P.underlying t = some (.map kt et)) (hK : KeyT P kt kenc) (hz : ∀ w, (zeroValue et).run P w = .ok z w)
    (hx : ev K x = some (.map (some b))) (hy : ev K y = some (kenc k)) (hm : mp b kenc venc l ∈ M)
    (next : TL m P σ n ops Q rest ((d, ((look l k).map venc).getD z) :: K) D M) : TL m P σ n ops Q (⟨some d, .lookup t x y false, ty, pos, aft, none⟩ :: rest) K D M :=
  L.quiet hd (fun a w s ss => by
    obtain ⟨es, clock, h1, h2⟩ := mp_run ss hm
    have h3 := run_lookup (ok := false) (k := k) hU hK hz h1 h2
    have ex : a.eval x = _ := s.eval hx
    have ey : a.eval y = _ := s.eval hy
    simp only [execOp, ex, ey]
    simp [h3]) next
theorem setB_setObj {w : World} {b : Nat} {o o' : Obj} (hb : w.heap[b]? = some o) (hc : ∀ c t m, o ≠ .cells c t m) : (setObj b o').run P w = .ok () (setB w b o') := by
  cases o with
  | cells c t m => exact absurd rfl (hc c t m)
  | _ => simp [setObj, Sem.run, hb, setB]
theorem mp_update {t kt et : TypeId} {b : Nat} {k : κ} {l : List (κ × ν)} {w : World} {v : ν} {N : List Asn} (hU : P.underlying t = some (.map kt et)) (hK : KeyT P kt kenc) (hm : Pull (mp b kenc venc l) M N) (ss : Sat σ D M w) :
    ∃ w', (Instr.mapUpdate t (.map (some b)) (kenc k) (venc v)).run P w = .ok () w' ∧ Sat σ D (mp b kenc venc (put l k v) :: N) w' := by
  have s1 := ss.ent hm
  obtain ⟨es, s2⟩ := s1.ex (A := fun es h => ∃ clock, h b = some (.map es clock) ∧ es.toList.map (fun e => (e.key, e.val)) = l.map (fun p => (kenc p.1, venc p.2)) ∧ (l.map Prod.fst).Nodup ∧ (es.toList.map (·.born)).Nodup ∧ ∀ e ∈ es.toList, e.born < clock)
  obtain ⟨clock, s3⟩ := s2.ex
  obtain ⟨y, ly, h1, h2, h3, h4, h5⟩ := s3.own (.head _)
  have hb : w.heap[b]? = some (.map es clock) := ly _ _ h1
  have s4 : Sat σ D (pt b (.map es clock) :: N) w := s3.ent (Ent.imp fun h hh => hh.1)
  have hg : (getObj b).run P w = .ok (.map es clock) w := by simp [getObj, Sem.run, hb]
  have c1 := hK.check false k w
  have c2 := hK.find venc k es.toList l w h2
  have so := fun o' => setB_setObj (P := P) (o' := o') hb (by intros; exact fun h => by cases h)
  cases hl : look l k with
  | none =>
    rw [lookI_none hl] at c2
    refine ⟨setB w b (.map (es.push { key := kenc k, val := venc v, born := clock }) (clock + 1)), by simp [Instr.mapUpdate, run_underlying hU, hg, c1, c2, so], (s4.setB Upd.here).ent (Ent.imp fun h hh => ⟨_, _, hh, ?_, nodup_put h3, ?_, ?_⟩)⟩
    · rw [put_none hl]; simp [h2]
    · simp only [Array.toList_push, List.map_append, List.map_cons, List.map_nil]
      refine List.nodup_append.2 ⟨h4, by simp, fun a ha c hc => ?_⟩
      obtain ⟨e, he, rfl⟩ := List.mem_map.1 ha
      simp at hc; subst hc
      have := h5 e he; omega
    · intro e he
      simp only [Array.toList_push, List.mem_append, List.mem_cons, List.not_mem_nil, or_false] at he
      rcases he with he | rfl
      · have := h5 e he; omega
      · show clock < clock + 1; omega
  | some u =>
    obtain ⟨j, h6, h7, h8, _⟩ := lookI_some (i := 0) hl
    rw [h6] at c2
    have hlen : es.toList.length = l.length := by simpa using congrArg List.length h2
    have hj : j < l.length := (List.getElem?_eq_some_iff.1 h7).1
    have hje : j < es.size := by rw [← hlen] at hj; simpa using hj
    have hkey : (es[j]'hje).key = kenc k := by
      have := congrArg (fun q : List (Value × Value) => q[j]?) h2
      simp only [List.getElem?_map, h7] at this
      rw [show es.toList[j]? = some (es[j]'hje) from by simp [hje]] at this
      simp at this
      exact this.1
    refine ⟨setB w b (.map (es.modify j fun e => { e with key := kenc k, val := venc v }) clock), by simp [Instr.mapUpdate, run_underlying hU, hg, c1, c2, so, hje, hkey, Instr.keyThatStays, hK.same], (s4.setB Upd.here).ent (Ent.imp fun h hh => ⟨_, _, hh, ?_, nodup_put h3, ?_, ?_⟩)⟩
    · rw [h8]
      apply List.ext_getElem?
      intro i
      have := congrArg (fun q : List (Value × Value) => q[i]?) h2
      simp only [List.getElem?_map] at this
      simp only [List.getElem?_map, Array.getElem?_toList, Array.getElem?_modify, List.getElem?_set]
      by_cases e : j = i
      · subst e
        simp [hje, hj]
      · simpa [e] using this
    · have : (es.modify j fun e => { e with key := kenc k, val := venc v }).toList.map (·.born) = es.toList.map (·.born) := by
        apply List.ext_getElem?
        intro i
        simp only [List.getElem?_map, Array.getElem?_toList, Array.getElem?_modify]
        by_cases e : j = i
        · subst e; simp [hje]
        · simp [e]
      rw [this]; exact h4
    · intro e he
      obtain ⟨i, hi, rfl⟩ := List.getElem_of_mem he
      have hi' : i < es.size := by simpa using hi
      simp only [Array.getElem_toList, Array.getElem_modify]
      have := h5 (es[i]'hi') (by simp)
      split <;> simpa using this
theorem L.mapUpdate {t kt et : TypeId} {x y u : Operand} {b : Nat} {k : κ} {l : List (κ × ν)} {v : ν} {uv : Value} {N : List Asn} (hU : P.underlying t = some (.map kt et)) (hK : KeyT P kt kenc)
    (hx : ev K x = some (.map (some b))) (hy : ev K y = some (kenc k)) (hu : ev K u = some uv) (hv : uv = venc v) (hm : Pull (mp b kenc venc l) M N)
    (next : TL none P σ n ops Q rest K D (mp b kenc venc (put l k v) :: N)) : TL none P σ n ops Q (⟨none, .mapUpdate t x y u, ty, pos, aft, none⟩ :: rest) K D M :=
  L.eff (fun a w s ss => by
    obtain ⟨w', hr, hs⟩ := mp_update (k := k) (v := v) hU hK hm ss
    refine ⟨w', ?_, hs⟩
    have ex : a.eval x = _ := s.eval hx
    have ey : a.eval y = _ := s.eval hy
    have eu : a.eval u = _ := s.eval hu
    subst hv
    simp only [execOp, ex, ey, eu]
    simp [hr]) next
omit [DecidableEq κ] in
theorem mp_new {b : Nat} {h : Hp} (H : pt b (.map #[] 0) h) : mp b kenc venc [] h := ⟨#[], 0, H, rfl, by simp, by simp, by simp⟩
theorem L.makeMap {t : TypeId} (kenc : κ → Value) (venc : ν → Value) (hd : Nat.blt d n = true) (next : ∀ b, TL none P σ n ops Q rest ((d, .map (some b)) :: K) D (mp b kenc venc [] :: M)) :
    TL none P σ n ops Q (⟨some d, .makeMap t none, ty, pos, aft, none⟩ :: rest) K D M :=
  L.valEx hd (fun v D' M' => ∃ b, v = .map (some b) ∧ D' = D ∧ M' = mp b kenc venc [] :: M) (fun a w s ss => by
    refine ⟨_, _, _, w.alloc (.map #[] 0), ?_, ⟨w.heap.size, rfl, rfl, rfl⟩, (ss.alloc _).ent (Ent.imp fun h hh => mp_new hh)⟩
    simp [execOp, Instr.makeMap]) (fun v D' M' ⟨b, e1, e2, e3⟩ => by subst e1; subst e2; subst e3; exact next b)
end
end Cv
namespace Cv
open Go

def W (x : BitVec 32) : Value := .int .u32 x.toNat
def Y (b : UInt8) : Value := .int .u8 b.toNat

theorem wrap_u32 (z : Int) : IntKind.u32.wrap z = ((BitVec.ofInt 32 z).toNat : Int) := by
  have e : IntKind.u32.wrap z = z % 2 ^ 32 := by simp [IntKind.wrap, IntKind.signed, IntKind.bits]
  rw [e, BitVec.toNat_ofInt]
  have := Int.emod_nonneg z (b := (2:Int) ^ 32) (by decide)
  omega
theorem wrap_u8 (z : Int) : IntKind.u8.wrap z = ((UInt8.ofNat (z % 256).toNat).toNat : Int) := by
  have e : IntKind.u8.wrap z = z % 2 ^ 8 := by simp [IntKind.wrap, IntKind.signed, IntKind.bits]
  have h1 := Int.emod_nonneg z (b := (256:Int)) (by decide)
  have h2 := Int.emod_lt_of_pos z (b := (256:Int)) (by decide)
  rw [e]
  simp only [UInt8.toNat_ofNat']
  omega
theorem ofInt_toNat (x : BitVec 32) : BitVec.ofInt 32 (x.toNat : Int) = x := by
  simp
section
variable {P : Program} {σ : World} {n : Nat} {Q : Post} {K : Env} {D M : List Asn} {m : Option (List Asn × List Asn)} {ops : Array Oper} {rest : List Oper} {d : Nat} {ty : TypeId} {pos : String} {aft : Array Edge}
variable {x y : Operand} {t t' : TypeId} {a b : BitVec 32}
theorem L.addW (hd : Nat.blt d n = true) (hx : ev K x = some (W a)) (hy : ev K y = some (W b)) (next : TL m P σ n ops Q rest ((d, W (a + b)) :: K) D M) :
    TL m P σ n ops Q (⟨some d, .binOp .add t x y t', ty, pos, aft, none⟩ :: rest) K D M :=
  L.addI hd hx hy (by rw [wrap_u32, BitVec.ofInt_add, ofInt_toNat, ofInt_toNat]; exact next)
theorem L.andW (hd : Nat.blt d n = true) (hx : ev K x = some (W a)) (hy : ev K y = some (W b)) (next : TL m P σ n ops Q rest ((d, W (a &&& b)) :: K) D M) :
    TL m P σ n ops Q (⟨some d, .binOp .and t x y t', ty, pos, aft, none⟩ :: rest) K D M :=
  L.andI hd hx hy (by unfold bitsAnd; rw [wrap_u32]; simp only [IntKind.bits, ofInt_toNat]; exact next)
theorem L.orW (hd : Nat.blt d n = true) (hx : ev K x = some (W a)) (hy : ev K y = some (W b)) (next : TL m P σ n ops Q rest ((d, W (a ||| b)) :: K) D M) :
    TL m P σ n ops Q (⟨some d, .binOp .or t x y t', ty, pos, aft, none⟩ :: rest) K D M :=
  L.orI hd hx hy (by unfold bitsOr; rw [wrap_u32]; simp only [IntKind.bits, ofInt_toNat]; exact next)
theorem L.xorW (hd : Nat.blt d n = true) (hx : ev K x = some (W a)) (hy : ev K y = some (W b)) (next : TL m P σ n ops Q rest ((d, W (a ^^^ b)) :: K) D M) :
    TL m P σ n ops Q (⟨some d, .binOp .xor t x y t', ty, pos, aft, none⟩ :: rest) K D M :=
  L.xorI hd hx hy (by unfold bitsXor; rw [wrap_u32]; simp only [IntKind.bits, ofInt_toNat]; exact next)
theorem L.shlW {yk : IntKind} {s : Int} {k : Nat} (hd : Nat.blt d n = true) (hx : ev K x = some (W a)) (hy : ev K y = some (.int yk s)) (hs : s = k) (next : TL m P σ n ops Q rest ((d, W (a <<< k)) :: K) D M) :
    TL m P σ n ops Q (⟨some d, .binOp .shl t x y t', ty, pos, aft, none⟩ :: rest) K D M :=
  L.shlI hd hx hy (by omega) (by
    subst hs
    have e : IntKind.u32.wrap ((a.toNat : Int) * 2 ^ (min (k : Int).toNat IntKind.u32.bits)) = ((a <<< k).toNat : Int) := by
      rw [wrap_u32, BitVec.toNat_shiftLeft, BitVec.toNat_ofInt]
      simp only [IntKind.bits, Int.toNat_natCast, Nat.shiftLeft_eq]
      by_cases hk : k ≤ 32
      · rw [Nat.min_eq_left hk]
        norm_cast
      · rw [Nat.min_eq_right (by omega)]
        have h1 : a.toNat * 2 ^ k % 2 ^ 32 = 0 := by
          apply Nat.mod_eq_zero_of_dvd
          exact Nat.dvd_trans (Nat.pow_dvd_pow 2 (by omega)) (Nat.dvd_mul_left _ _)
        have h2 : ((a.toNat : Int) * 2 ^ 32) % ((2 ^ 32 : Nat) : Int) = 0 := by
          show ((a.toNat : Int) * 4294967296) % 4294967296 = 0
          omega
        rw [h1, h2]; rfl
    rw [e]; exact next)
theorem L.shrW {yk : IntKind} {s : Int} {k : Nat} (hd : Nat.blt d n = true) (hx : ev K x = some (W a)) (hy : ev K y = some (.int yk s)) (hs : s = k) (next : TL m P σ n ops Q rest ((d, W (a >>> k)) :: K) D M) :
    TL m P σ n ops Q (⟨some d, .binOp .shr t x y t', ty, pos, aft, none⟩ :: rest) K D M :=
  L.shrI hd hx hy (by omega) (by
    subst hs
    have e : (a.toNat : Int).fdiv (2 ^ (min (k : Int).toNat IntKind.u32.bits)) = ((a >>> k).toNat : Int) := by
      rw [BitVec.toNat_ushiftRight, Nat.shiftRight_eq_div_pow]
      simp only [IntKind.bits, Int.toNat_natCast]
      rw [Int.fdiv_eq_ediv_of_nonneg _ (Int.le_of_lt (Int.pow_pos (by decide)))]
      have ha := a.isLt
      by_cases hk : k ≤ 32
      · rw [Nat.min_eq_left hk]; norm_cast
      · rw [Nat.min_eq_right (by omega), Nat.div_eq_of_lt (Nat.lt_of_lt_of_le ha (Nat.pow_le_pow_right (by decide) (by omega)))]
        have : (a.toNat : Int) / 2 ^ 32 = ((a.toNat / 2 ^ 32 : Nat) : Int) := by norm_cast
        rw [this, Nat.div_eq_of_lt ha]
    rw [e]; exact next)
theorem L.notW {x : Operand} {t : TypeId} (hd : Nat.blt d n = true) (hx : ev K x = some (W a)) (next : TL m P σ n ops Q rest ((d, W (~~~ a)) :: K) D M) :
    TL m P σ n ops Q (⟨some d, .unOp .xor t x, ty, pos, aft, none⟩ :: rest) K D M :=
  L.pureOp hd (fun ρ w s => by
    have e : IntKind.u32.wrap (((BitVec.ofInt IntKind.u32.bits IntKind.u32.max) ^^^ (BitVec.ofInt IntKind.u32.bits (a.toNat : Int))).toNat : Int) = ((~~~ a).toNat : Int) := by
      rw [wrap_u32]
      simp only [IntKind.bits, ofInt_toNat]
      congr 2
    have h1 := s hx
    simp only [execOp, h1, W, Op.unary, IntKind.signed, Op.intBits]
    simp only [e, Bool.false_eq_true, if_false]
    rfl) next
end
end Cv
namespace Cv
open Go

def S (l : List UInt8) : Value := .string ⟨l.toArray⟩
@[reducible] def yr (b : UInt8) : List Value := [Y b]

section
variable {P : Program} {σ : World} {n : Nat} {Q : Post} {K : Env} {D M : List Asn} {m : Option (List Asn × List Asn)} {ops : Array Oper} {rest : List Oper} {d : Nat} {ty : TypeId} {pos : String} {aft : Array Edge}
variable {x y : Operand} {t t' src dst : TypeId}
/-! ### conversions between integers -/
theorem L.convI {k k' : IntKind} {z : Int} {s : TypeDesc} (hd : Nat.blt d n = true) (hS : P.underlying src = some s) (hU : P.underlying dst = some (.int k)) (hx : ev K x = some (.int k' z)) (next : TL m P σ n ops Q rest ((d, .int k (k.wrap z)) :: K) D M) :
    TL m P σ n ops Q (⟨some d, .convert src dst x, ty, pos, aft, none⟩ :: rest) K D M :=
  L.pureOp hd (fun ρ w ss => by
    have h1 := ss hx
    simp [execOp, h1, convert, run_underlying hS, run_underlying hU, Conv.intToInt]) next
theorem L.convYW {b : UInt8} {s : TypeDesc} (hd : Nat.blt d n = true) (hS : P.underlying src = some s) (hU : P.underlying dst = some (.int .u32)) (hx : ev K x = some (Y b)) (next : TL m P σ n ops Q rest ((d, W (BitVec.ofNat 32 b.toNat)) :: K) D M) :
    TL m P σ n ops Q (⟨some d, .convert src dst x, ty, pos, aft, none⟩ :: rest) K D M :=
  L.convI hd hS hU hx (by
    rw [wrap_u32]
    rw [show BitVec.ofInt 32 (b.toNat : Int) = BitVec.ofNat 32 b.toNat from BitVec.ofInt_natCast ..]; exact next)
theorem L.convWY {a : BitVec 32} {s : TypeDesc} (hd : Nat.blt d n = true) (hS : P.underlying src = some s) (hU : P.underlying dst = some (.int .u8)) (hx : ev K x = some (W a)) (next : TL m P σ n ops Q rest ((d, Y (UInt8.ofNat a.toNat)) :: K) D M) :
    TL m P σ n ops Q (⟨some d, .convert src dst x, ty, pos, aft, none⟩ :: rest) K D M :=
  L.convI hd hS hU hx (by
    have e : IntKind.u8.wrap (a.toNat : Int) = ((UInt8.ofNat a.toNat).toNat : Int) := by
      rw [wrap_u8]; simp only [UInt8.toNat_ofNat']; omega
    rw [e]; exact next)
theorem L.convIY {k' : IntKind} {z : Int} {s : TypeDesc} (hd : Nat.blt d n = true) (hS : P.underlying src = some s) (hU : P.underlying dst = some (.int .u8)) (hx : ev K x = some (.int k' z)) (next : TL m P σ n ops Q rest ((d, Y (UInt8.ofNat (z % 256).toNat)) :: K) D M) :
    TL m P σ n ops Q (⟨some d, .convert src dst x, ty, pos, aft, none⟩ :: rest) K D M :=
  L.convI hd hS hU hx (by rw [wrap_u8]; exact next)
theorem L.negN {z : Int} (hd : Nat.blt d n = true) (hx : ev K x = some (.int .i64 z)) (hz : -9223372036854775807 ≤ z ∧ z ≤ 9223372036854775807) (next : TL m P σ n ops Q rest ((d, .int .i64 (-z)) :: K) D M) :
    TL m P σ n ops Q (⟨some d, .unOp .neg t x, ty, pos, aft, none⟩ :: rest) K D M :=
  L.pureOp hd (fun ρ w ss => by
    have h1 := ss hx
    have h2 : IntKind.i64.wrap (0 - z) = -z := by rw [Int.zero_sub]; exact wrap_i64 (by omega) (by omega)
    simp only [execOp, h1, Op.unary, Op.intArith, h2]
    rfl) next
/-! ### strings -/
theorem L.lenStr {l : List UInt8} (hd : Nat.blt d n = true) (hU : P.underlying t = some .string) (hx : ev K x = some (S l)) (next : TL m P σ n ops Q rest ((d, .int .i64 l.length) :: K) D M) :
    TL m P σ n ops Q (⟨some d, .call { callee := .builtin .len, args := #[x], argTypes := #[t] }, ty, pos, aft, none⟩ :: rest) K D M :=
  L.pureOp hd (fun ρ w s => by
    have h1 := s hx
    simp [execOp, resolve, h1, S, invoke, builtin, Builtin.len_, run_underlying hU, goInt, go_sem]) next
theorem L.addS {l l' : List UInt8} (hd : Nat.blt d n = true) (hx : ev K x = some (S l)) (hy : ev K y = some (S l')) (hb : ((l.length + l'.length : Nat) : Int) ≤ 9223372036854775807) (next : TL m P σ n ops Q rest ((d, S (l ++ l')) :: K) D M) :
    TL m P σ n ops Q (⟨some d, .binOp .add t x y t', ty, pos, aft, none⟩ :: rest) K D M :=
  L.pureOp hd (fun ρ w s => by
    have h1 := s hx
    have h2 := s hy
    have h3 : ¬ (((ByteArray.mk l.toArray).size + (ByteArray.mk l'.toArray).size : Nat) : Int) > IntKind.i64.max := by
      show ¬ ((l.toArray.size + l'.toArray.size : Nat) : Int) > 9223372036854775807
      simp only [List.size_toArray]; omega
    have h4 : ByteArray.mk l.toArray ++ ByteArray.mk l'.toArray = ByteArray.mk (l ++ l').toArray := by
      apply ByteArray.ext
      simp
    simp only [execOp, h1, h2, S, eqGuard, binOp, Op.stringOp, if_neg h3, h4]
    rfl) next
theorem L.indexS {l : List UInt8} {i : Nat} {k : IntKind} {iv : Int} {b : UInt8} (hd : Nat.blt d n = true) (hU : P.underlying t = some .string) (hx : ev K x = some (S l)) (hy : ev K y = some (.int k iv)) (hi : iv = (i : Int)) (hb : l[i]? = some b) (next : TL m P σ n ops Q rest ((d, Y b) :: K) D M) :
    TL m P σ n ops Q (⟨some d, .index t x y, ty, pos, aft, none⟩ :: rest) K D M :=
  L.pureOp hd (fun ρ w s => by
    have h1 := s hx
    have h2 := s hy
    subst hi
    have h3 : (ByteArray.mk l.toArray)[i]? = some b := by
      obtain ⟨h, e⟩ := List.getElem?_eq_some_iff.1 hb
      rw [getElem?_pos (ByteArray.mk l.toArray) i (by show i < l.toArray.size; simpa using h)]
      exact congrArg some e
    simp [execOp, h1, h2, S, Instr.index, run_underlying hU, asIntOf, h3]
    rfl) next
theorem L.sliceS {l : List UInt8} {lo hi : Option Operand} {a b : Nat} (hd : Nat.blt d n = true) (hU : P.underlying t = some .string) (hx : ev K x = some (S l))
    (ha : match lo with | none => a = 0 | some o => ∃ k, ev K o = some (.int k (a : Int))) (hb : match hi with | none => b = l.length | some o => ∃ k, ev K o = some (.int k (b : Int))) (h1 : a ≤ b) (h2 : b ≤ l.length)
    (next : TL m P σ n ops Q rest ((d, S ((l.take b).drop a)) :: K) D M) :
    TL m P σ n ops Q (⟨some d, .slice t x lo hi none, ty, pos, aft, none⟩ :: rest) K D M :=
  L.pureOp hd (fun ρ w s => by
    have e1 := s hx
    have e2 : (ByteArray.mk l.toArray).extract a b = ByteArray.mk ((l.take b).drop a).toArray := by
      apply ByteArray.ext
      apply Array.ext'
      simp [ByteArray.data_extract, List.extract_eq_take_drop, List.drop_take]
    have e3 : (ByteArray.mk l.toArray).size = l.length := by show l.toArray.size = _; simp
    cases lo with
    | none =>
      simp only at ha; subst ha
      cases hi with
      | none => 
        simp only at hb; subst hb
        simp [execOp, e1, S, Instr.sliceAt, Instr.slice, Instr.sliceBounds, run_underlying hU, e3, e2]
      | some o =>
        obtain ⟨k, e4⟩ := hb
        have e5 := s e4
        simp [execOp, e1, S, e5, Instr.sliceAt, Instr.slice, Instr.sliceBounds, Instr.sliceBound, asIntOf, run_underlying hU, e3, e2, h2]
    | some o' =>
      obtain ⟨k', e6⟩ := ha
      have e7 := s e6
      cases hi with
      | none =>
        simp only at hb; subst hb
        simp [execOp, e1, S, e7, Instr.sliceAt, Instr.slice, Instr.sliceBounds, Instr.sliceBound, asIntOf, run_underlying hU, e3, h1]
        simpa using e2
      | some o =>
        obtain ⟨k, e4⟩ := hb
        have e5 := s e4
        simp [execOp, e1, S, e5, e7, Instr.sliceAt, Instr.slice, Instr.sliceBounds, Instr.sliceBound, asIntOf, run_underlying hU, e3, h1, h2]
        simpa using e2) next
theorem str_eq {l l' : List UInt8} : ((ByteArray.mk l.toArray).toList == (ByteArray.mk l'.toArray).toList) = decide (l = l') := by
  simp only [ByteArray.toList_eq]
  by_cases e : l = l'
  · subst e; simp
  · simp [e]
theorem L.eqS {l l' : List UInt8} (hd : Nat.blt d n = true) (hx : ev K x = some (S l)) (hy : ev K y = some (S l')) (next : TL m P σ n ops Q rest ((d, .bool (decide (l = l'))) :: K) D M) :
    TL m P σ n ops Q (⟨some d, .binOp .eql t x y t', ty, pos, aft, none⟩ :: rest) K D M :=
  L.pureOp hd (fun ρ w s => by
    have h1 := s hx
    have h2 := s hy
    simp only [execOp, h1, h2, S, eqGuard_at_string, binOp, Op.stringOp, str_eq]
    rfl) next
theorem L.neS {l l' : List UInt8} (hd : Nat.blt d n = true) (hx : ev K x = some (S l)) (hy : ev K y = some (S l')) (next : TL m P σ n ops Q rest ((d, .bool (!decide (l = l'))) :: K) D M) :
    TL m P σ n ops Q (⟨some d, .binOp .neq t x y t', ty, pos, aft, none⟩ :: rest) K D M :=
  L.pureOp hd (fun ρ w s => by
    have h1 := s hx
    have h2 := s hy
    simp only [execOp, h1, h2, S, eqGuard_at_string, binOp, Op.stringOp, str_eq]
    rfl) next
def bless (l l' : List UInt8) : Bool := Op.bytesLess l l'
theorem L.geS {l l' : List UInt8} (hd : Nat.blt d n = true) (hx : ev K x = some (S l)) (hy : ev K y = some (S l')) (next : TL m P σ n ops Q rest ((d, .bool (!bless l l')) :: K) D M) :
    TL m P σ n ops Q (⟨some d, .binOp .geq t x y t', ty, pos, aft, none⟩ :: rest) K D M :=
  L.pureOp hd (fun ρ w s => by
    have h1 := s hx
    have h2 := s hy
    simp only [execOp, h1, h2, S, eqGuard_at_string, binOp, Op.stringOp, str_eq]
    simp only [ByteArray.toList_eq]
    rfl) next
/-! ### bytes to string -/
theorem foldl_push : ∀ (l : List UInt8) (s : ByteArray), (l.map (fun b => (b.toNat : Int))).foldl (fun r n => r.push (UInt8.ofNat n.toNat)) s = ⟨(s.data.toList ++ l).toArray⟩
  | [], s => by simp
  | b :: l, s => by
    rw [List.map_cons, List.foldl_cons, foldl_push l]
    congr 1
    simp
theorem L.bytesStr {a : Option Addr} {l : List UInt8} {e : TypeId} {len cap : Nat} (hd : Nat.blt d n = true) (hs : P.underlying src = some (.slice e)) (he : P.underlying e = some (.int .u8)) (hU : P.underlying dst = some .string) (hx : ev K x = some (.slice a len cap))
    (hm : rsl 1 a len cap (l.map yr) ∈ D) (next : TL m P σ n ops Q rest ((d, S l) :: K) D M) :
    TL m P σ n ops Q (⟨some d, .convert src dst x, ty, pos, aft, none⟩ :: rest) K D M :=
  L.quiet hd (fun ρ w s ss => by
    have h1 := s.eval hx
    obtain ⟨y', l', H⟩ := ss.fact hm
    obtain ⟨q1, q2, q3, q4⟩ := H
    rw [List.length_map] at q1
    have main : (Conv.bytesToString (.slice a len cap)).run P w = .ok (S l) w := by
      cases a with
      | none =>
        have : l = [] := by
          rcases q4 with e | ⟨b, o, c, t, m, e, _⟩
          · simpa using e
          · cases e
        subst this
        rfl
      | some p =>
        have hl : (loadCells p len).run P w = .ok ((l.map (fun b => (b.toNat : Int))).map (Value.int .u8)).toArray w := by
          have e1 : ((l.map (fun b => (b.toNat : Int))).map (Value.int .u8)) = l.map Y := by simp [Y]
          rw [e1, ← q1, show l.length = (l.map Y).length from by simp]
          refine run_loadCells_list (P := P) w p _ (fun j v e => ?_)
          rcases q4 with e' | ⟨b, o, c, t, m, e1, e2, e3⟩
          · have : l = [] := by simpa using e'
            subst this; simp at e
          · injection e1 with e1; subst e1
            rw [add_lit, cell_of (l' _ _ e2)]
            rw [List.getElem?_map] at e
            cases hj : l[j]? with
            | none => rw [hj] at e; cases e
            | some z =>
              rw [hj] at e; injection e with e; subst e
              have := e3 j 0 (yr z) (Y z) (by rw [List.getElem?_map, hj]; rfl) rfl
              simpa using this
        rw [run_bytesToString w p len cap _ hl, foldl_push]
        rfl
    simp only [execOp, h1, run_convert_bytes_string w src dst e a len cap hs he hU]
    rw [Sem.run_bind, run_convert_bytes_string w src dst e a len cap hs he hU, main]
    rfl) next
end
end Cv
namespace Cv
open Go
section
variable {P : Program} {σ : World} {n : Nat} {Q : Post} {K : Env} {D M : List Asn} {m : Option (List Asn × List Asn)} {ops : Array Oper} {rest : List Oper} {d : Nat} {ty : TypeId} {pos : String} {aft : Array Edge}

theorem run_append_at (w : World) (t tx ty e : TypeId) (i : TypeInfo) (ht : P.underlying t = some (.slice e)) (hi : P.info? e = some i)
    (g off sLen sCap : Nat) (cur : Array Value) (hg : w.heap[g]? = some (.cells cur e (0, 0))) {x : Value} {m : Nat} {news : List Value} (hs : Go.Src P i.size tx x m news w)
    (hroom : sLen + m ≤ sCap) (hfit : off + sLen * i.size + news.length ≤ cur.size) :
    (Builtin.append_ #[t, tx] ty #[.slice (some ⟨g, off, none⟩) sLen sCap, x]).run P w =
      .ok (.slice (some ⟨g, off, none⟩) (sLen + m) sCap) (w.setRow g (cur.toList.take (off + sLen * i.size) ++ news ++ cur.toList.drop (off + sLen * i.size + news.length)).toArray) := by
  have hst := run_storeCells_at P g (off + sLen * i.size) e news 0 cur w hg (by simpa using hfit) hs.one
  simp only [Nat.add_zero] at hst
  rcases hs.kind with ⟨e', hk⟩ | hk <;> simp [Builtin.append_, run_underlying ht, run_underlying hk, Go.sizeOf, typeInfo, hi, hs.len, hroom, hs.cells, Addr.add_lit, hst]

theorem append_src {t tx e : TypeId} {ty : TypeId} {a : Option Addr} {x : Value} {len cap m sz bytes : Nat} {rows news : List (List Value)} {N : List Asn} {w : World} (hU : P.underlying t = some (.slice e)) (hE : El P e sz bytes)
    (hM : Pull (own sz e a len cap rows) M N) (hs : Go.Src P sz tx x m news.flatten w) (hn : news.length = m) (hr : ∀ r ∈ news, r.length = sz)
    (hb : (len + m) * bytes ≤ 140737488355328) (hb' : len + m ≤ 4611686018427387904) (ss : Sat σ D M w) :
    ∃ a' cap' w', (Builtin.append_ #[t, tx] ty #[.slice a len cap, x]).run P w = .ok (.slice a' (len + m) cap') w' ∧ Sat σ D (own sz e a' (len + m) cap' (rows ++ news) :: N) w' := by
  obtain ⟨i, z, hi, hz, hsz, hby, hzs⟩ := hE
  have ss1 := ss.ent hM
  obtain ⟨y, ly, H⟩ := ss1.own (.head _)
  obtain ⟨r1, r2, r3, r4⟩ := H
  rw [← hsz] at hs
  have hfl : news.flatten.length = m * i.size := by rw [rows_flat_len hr, hn, hsz]
  have fresh : ∀ (olds : List Value) (cp : Nat), olds = rows.flatten → len + m ≤ cp →
      Sat σ D (own sz e (some ⟨w.heap.size, 0, none⟩) (len + m) cp (rows ++ news) :: N) (w.drew.alloc (.cells ((olds ++ news.flatten).toArray ++ Builtin.zeroCells z.cells (cp - (len + m))) e)) := by
    intro olds cp ho hcp
    rw [show (olds ++ news.flatten).toArray = olds.toArray ++ news.flatten.toArray from by simp]
    have s1 := (((ss1.ent (Ent.skip (Ent.refl N))).drew (w.drawn + 1)).alloc (.cells (olds.toArray ++ news.flatten.toArray ++ Builtin.zeroCells z.cells (cp - (len + m))) e))
    refine s1.ent (Ent.imp fun h hh => ?_)
    have hol : olds.length = len * sz := by rw [ho, rows_flat_len r3, r1]
    refine ⟨by simp [r1, hn], hcp, fun r hrr => ?_, .inr ⟨w.heap.size, 0, _, rfl, hh, ?_, rows_append r1 r3 hr (fun j v hv => ?_) (fun j v hv => ?_)⟩⟩
    · exact (List.mem_append.1 hrr).elim (r3 r) (hr r)
    · simp only [Array.size_append, List.size_toArray, hol, hfl, size_zeroCells, hzs, hsz, Nat.zero_add]
      rw [← Nat.add_mul, ← Nat.add_mul]
      exact Nat.mul_le_mul_right _ (by omega)
    · have hj := (List.getElem?_eq_some_iff.1 hv).1
      rw [← ho] at hv hj
      simp only [Nat.zero_add]
      rw [Array.getElem?_append_left (by rw [Array.size_append, List.size_toArray]; omega), Array.getElem?_append_left (by simpa using hj)]
      simpa using hv
    · have hj := (List.getElem?_eq_some_iff.1 hv).1
      simp only [Nat.zero_add]
      rw [Array.getElem?_append_left (by rw [Array.size_append, List.size_toArray, List.size_toArray, hol]; omega), Array.getElem?_append_right (by rw [List.size_toArray, hol]; omega)]
      simpa [hol] using hv
  rcases r4 with ⟨rfl, hcap⟩ | ⟨b, off, cs, rfl, hblk, hfit, hrows⟩
  · -- nil
    have hlen : len = 0 := by omega
    subst hlen
    have hrn : rows = [] := List.length_eq_zero_iff.1 r1
    subst hrn
    subst hcap
    by_cases hm0 : m = 0
    · have hnews : news = [] := List.length_eq_zero_iff.1 (by omega)
      subst hnews; subst hm0
      refine ⟨none, 0, w, ?_, by simpa using ss1⟩
      rcases hs.kind with ⟨e', hk⟩ | hk <;> simp [Builtin.append_, run_underlying hU, run_underlying hk, Go.sizeOf, typeInfo, hi, hs.len, hs.cells]
    · have hrun := run_append_grow_src (P := P) w t tx ty e i z hU hi hz none 0 0 [] (run_firstCells_none _ _ _ _ _) x m news.flatten hs (by omega) (by omega) (growslice_fits (by omega) (by rw [hby]; exact hb))
      exact ⟨_, _, _, hrun, fresh [] (grownCap w (0 + m) 0 e) (by simp) (grownCap_ge w _ _ e)⟩
  · have hbw : w.heap[b]? = some (.cells cs e (0, 0)) := ly _ _ hblk
    have hof : ∀ j u, rows.flatten[j]? = some u → cs[off + j]? = some u := rowsAt_flat r3 hrows
    by_cases hroom : len + m ≤ cap
    · have hfit' : off + len * i.size + news.flatten.length ≤ cs.size := by
        rw [hfl, hsz, Nat.add_assoc, ← Nat.add_mul]
        have := Nat.mul_le_mul_right sz hroom
        omega
      have hrun := run_append_at (P := P) w t tx ty e i hU hi b off len cap cs hbw hs hroom hfit'
      rw [setRow_setB hbw] at hrun
      refine ⟨_, _, _, hrun, ?_⟩
      have s1 : Sat σ D (pt b (.cells cs e (0, 0)) :: N) w := by
        obtain ⟨z', k', a', b', c', d', ⟨g1, g2, l1, l2, d2, hA, hMM⟩⟩ := ss1.heap
        refine ⟨ss1.os, ss1.tape, ss1.output, z', k', a', b', c', d', g1, g2, l1, l2, d2, ?_, hMM⟩
        obtain ⟨_, _, _, q⟩ := hA
        rcases q with ⟨e0, _⟩ | ⟨b2, o2, cs2, e2, hb2, _, _⟩
        · cases e0
        · injection e2 with e2; injection e2 with e3 e4
          subst e3; subst e4
          have := b' _ _ (l1 _ _ hb2)
          rw [show hp w b = w.heap[b]? from rfl, hbw] at this
          cases this
          exact hb2
      refine (s1.setB (o' := .cells (cs.toList.take (off + len * i.size) ++ news.flatten ++ cs.toList.drop (off + len * i.size + news.flatten.length)).toArray e (0, 0)) Upd.here).ent (Ent.imp fun h hh => ?_)
      have hget := fun j => splice_get cs.toList news.flatten (off + len * i.size) j (by simpa using hfit')
      have hol : rows.flatten.length = len * sz := by rw [rows_flat_len r3, r1]
      refine ⟨by simp [r1, hn], hroom, fun r hrr => ?_, .inr ⟨b, off, _, rfl, hh, ?_, rows_append r1 r3 hr (fun j v hv => ?_) (fun j v hv => ?_)⟩⟩
      · exact (List.mem_append.1 hrr).elim (r3 r) (hr r)
      · simp only [List.size_toArray, List.length_append, List.length_take, List.length_drop, Array.length_toList]
        omega
      · have hj := (List.getElem?_eq_some_iff.1 hv).1
        simp only [List.getElem?_toArray]
        rw [hget, if_pos (by rw [hsz]; omega)]
        simpa using hof j v hv
      · have hj := (List.getElem?_eq_some_iff.1 hv).1
        simp only [List.getElem?_toArray]
        rw [hget, if_neg (by rw [hsz]; omega), if_pos (by rw [hsz]; omega)]
        rw [hsz, show off + len * sz + j - (off + len * sz) = j from by omega]
        exact hv
    · have hold : (Builtin.firstCells i.size len (.slice (some ⟨b, off, none⟩) len cap)).run P w.drew = .ok rows.flatten.toArray w.drew :=
        run_firstCells_some (P := P) w.drew i.size len ⟨b, off, none⟩ len cap rows.flatten (by rw [rows_flat_len r3, r1, hsz]) (fun j v hv => by
          have : w.drew.cell? ((⟨b, off, none⟩ : Addr).add j) = w.cell? ((⟨b, off, none⟩ : Addr).add j) := by simp
          rw [this, add_lit, cell_of hbw]; exact hof j v hv)
      have hrun := run_append_grow_src (P := P) w t tx ty e i z hU hi hz (some ⟨b, off, none⟩) len cap rows.flatten hold x m news.flatten hs (by omega) (by omega) (growslice_fits (by omega) (by rw [hby]; exact hb))
      exact ⟨_, _, _, hrun, fresh rows.flatten (grownCap w (len + m) cap e) rfl (grownCap_ge w _ _ e)⟩

theorem yr_cells : ∀ l : List UInt8, byteCells (ByteArray.mk l.toArray) = (l.map yr).flatten
  | [] => rfl
  | b :: l => by
    have := yr_cells l
    simp only [byteCells, List.map_cons, List.flatten_cons, yr, Y] at this ⊢
    rw [← this]; rfl
theorem L.appendS {t tx e : TypeId} {x y : Operand} {a : Option Addr} {len cap : Nat} {l : List UInt8} {rows : List (List Value)} {N : List Asn} (hd : Nat.blt d n = true) (hU : P.underlying t = some (.slice e)) (hV : P.underlying tx = some .string) (hE : El P e 1 1)
    (hx : ev K x = some (.slice a len cap)) (hy : ev K y = some (S l)) (hM : Pull (own 1 e a len cap rows) M N)
    (hb : len + l.length ≤ 140737488355328)
    (next : ∀ a' cap', TL none P σ n ops Q rest ((d, .slice a' (len + l.length) cap') :: K) D (own 1 e a' (len + l.length) cap' (rows ++ l.map yr) :: N)) :
    TL none P σ n ops Q (⟨some d, .call { callee := .builtin .append, args := #[x, y], argTypes := #[t, tx] }, ty, pos, aft, none⟩ :: rest) K D M :=
  L.valEx hd (fun v D' M' => ∃ a' cap', v = .slice a' (len + l.length) cap' ∧ D' = D ∧ M' = own 1 e a' (len + l.length) cap' (rows ++ l.map yr) :: N) (fun aa w s ss => by
    have hsrc : Go.Src P 1 tx (S l) l.length (l.map yr).flatten w := by
      have := Src.ofString (P := P) w hV (ByteArray.mk l.toArray)
      have e1 : (ByteArray.mk l.toArray).size = l.length := by show l.toArray.size = _; simp
      have e2 : byteCells (ByteArray.mk l.toArray) = (l.map yr).flatten := by
        exact yr_cells l
      rw [e1, e2] at this; exact this
    obtain ⟨a', cap', w', hrun, hS⟩ := append_src (ty := ty) hU hE hM hsrc (by simp) (by simp [yr]) (by omega) (by omega) ss
    refine ⟨_, _, _, w', ?_, ⟨a', cap', rfl, rfl, rfl⟩, hS⟩
    have ex : aa.eval x = _ := s.eval hx
    have ey : aa.eval y = _ := s.eval hy
    simp [execOp, resolve, invoke, builtin, ex, ey, hrun]) (fun v D' M' ⟨a', cap', e1, e2, e3⟩ => by subst e1; subst e2; subst e3; exact next a' cap')
end
end Cv
