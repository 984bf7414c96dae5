/-
  The walks: books: records spelt.
-/
import Derived.Test.YtncgoodlhmpfcaaGreatD16
set_option linter.all false
set_option maxHeartbeats 400000
set_option maxRecDepth 10000
namespace Cv
open Go Go.Proofs
/-! ## books: the plain model -/
abbrev Rc := Nat × List UInt8
def cstB (n : Nat) : Nat := (32 + ((numB 1).length + (numB n).length) + n + 63) / 64
def spN (s : List UInt8) (k : Nat) (d : List UInt8) : List UInt8 := digest (s ++ (numB k ++ strB d))
def spS (s : List UInt8) (k : Nat) (d : List UInt8) : List UInt8 := spN s k d ++ (numB k ++ strB d)
def sdT (t : Nat) : List UInt8 := digest ([116, 117, 114, 110] ++ numB t)
def hdT (t : Nat) : List UInt8 := digest ([104, 101, 97, 100] ++ numB t) ++ numB t
theorem beB_1 {n : Nat} (h : 1 ≤ n) (k : n ≤ 255) : (beB n).length = 1 := by
  rw [beB_pos (by omega), show n / 256 = 0 by omega, beB_0]; rfl
theorem numB_1 {n : Nat} (h : 1 ≤ n) (k : n ≤ 255) : (numB n).length = 2 := by unfold numB; rw [List.length_cons, beB_1 h k]
theorem numB_3 {n : Nat} (k : n ≤ 65535) : (numB n).length ≤ 3 := by
  unfold numB
  rw [List.length_cons]
  have := beB_len 2 n (by omega)
  omega
theorem spS_len {s d : List UInt8} {k : Nat} (h : 1 ≤ k) (h2 : k ≤ 200) : (spS s k d).length = 32 + (2 + (numB d.length).length) + d.length := by
  unfold spS spN strB
  rw [List.length_append, xE, List.length_append, List.length_append, numB_1 h (by omega)]; omega
theorem cst_eq {s d : List UInt8} {k : Nat} (h : 1 ≤ k) (h2 : k ≤ 200) : cstB d.length = ((spS s k d).length + 63) / 64 := by
  rw [spS_len h h2]; unfold cstB; rw [numB_1 (by decide) (by decide)]
theorem cstB_pos {n : Nat} : 1 ≤ cstB n := by unfold cstB; omega
theorem cst_le {n : Nat} (h : n ≤ 65535) : cstB n ≤ (n + 100) / 64 := by
  have := numB_3 h
  unfold cstB; rw [numB_1 (by decide) (by decide)]; omega
def splB (s : List UInt8) : List (List UInt8) := if 64 < s.length then s.take 64 :: splB (s.drop 64) else [s]
termination_by s.length
decreasing_by rw [List.length_drop]; omega
theorem splB_s {s : List UInt8} (h : 64 < s.length) : splB s = s.take 64 :: splB (s.drop 64) := by rw [splB, if_pos h]
theorem splB_e {s : List UInt8} (h : ¬ 64 < s.length) : splB s = [s] := by rw [splB, if_neg h]
theorem splB_ok : ∀ (m : Nat) (s : List UInt8), s.length ≤ m → 1 ≤ s.length → (splB s).length = (s.length + 63) / 64 ∧ (∀ t ∈ splB s, t.length ≤ 64) ∧ ∃ z, (splB s).flatMap (fun t => (padB t).1) = s ++ List.replicate z 0
  | 0, s, h, k => by omega
  | m + 1, s, h, k => by
    by_cases c : 64 < s.length
    · rw [splB_s c]
      have hd : (s.drop 64).length = s.length - 64 := List.length_drop ..
      obtain ⟨a, b, z, e⟩ := splB_ok m (s.drop 64) (by omega) (by omega)
      refine ⟨by rw [List.length_cons, a, hd]; omega, fun t ht => ?_, z, ?_⟩
      · rcases List.mem_cons.1 ht with q | q
        · rw [q, List.length_take]; omega
        · exact b t q
      · rw [List.flatMap_cons, e, ← List.append_assoc]
        congr 1
        have h64 : (s.take 64).length = 64 := by rw [List.length_take]; omega
        show ((s.take 64 ++ List.replicate 64 0).take 64) ++ s.drop 64 = s
        rw [List.take_append_of_le_length (by omega), List.take_of_length_le (by omega), List.take_append_drop]
    · rw [splB_e c]
      refine ⟨by rw [List.length_singleton]; omega, fun t ht => by rw [List.mem_singleton.1 ht]; omega, 64 - s.length, ?_⟩
      rw [List.flatMap_cons, List.flatMap_nil, List.append_nil]
      show (s ++ List.replicate 64 0).take 64 = _
      rw [List.take_append, List.take_of_length_le (by omega), List.take_replicate, Nat.min_eq_left (by omega)]
theorem rdB_wr {cur : List Bk} {p : Nat} {ts : List (List UInt8)} (h : p + ts.length ≤ cur.length) : rdB (wrC cur p ts) p ts.length = ts.flatMap fun t => (padB t).1 := by
  have e : ((wrC cur p ts).drop p).take ts.length = ts.map padB := List.ext_getElem? fun i => by
    rw [List.getElem?_take, List.getElem?_map]
    split
    · rw [List.getElem?_drop, wrC_get ts cur p _ h, if_pos (by omega), show p + i - p = i by omega]
    · rw [List.getElem?_eq_none (by omega)]; rfl
  unfold rdB; rw [e, List.flatMap_map]
theorem rdB_eq {cur cur2 : List Bk} {p n : Nat} (h : ∀ i, p ≤ i → i < p + n → cur2[i]? = cur[i]?) : rdB cur2 p n = rdB cur p n := by
  have e : (cur2.drop p).take n = (cur.drop p).take n := List.ext_getElem? fun i => by
    rw [List.getElem?_take, List.getElem?_take]
    split
    · rw [List.getElem?_drop, List.getElem?_drop]; exact h _ (by omega) (by omega)
    · rfl
  unfold rdB; rw [e]
abbrev PvM := List (Int × List UInt8)
def RecsP (cur : List Bk) (pv : PvM) : Nat → List UInt8 → List Rc → Nat → List UInt8 → Prop
  | p, s, [], e, t => p = e ∧ s = t
  | p, s, r :: rs, e, t => (∃ z, rdB cur p (cstB r.2.length) = spS s r.1 r.2 ++ List.replicate z 0) ∧ look pv (p : Int) = some s ∧ RecsP cur pv (p + cstB r.2.length) (spN s r.1 r.2) rs e t
theorem RecsP.le {cur : List Bk} {pv : PvM} : ∀ {rs : List Rc} {p : Nat} {s : List UInt8} {e : Nat} {t : List UInt8}, RecsP cur pv p s rs e t → p ≤ e
  | [], _, _, _, _, h => Nat.le_of_eq h.1
  | r :: rs, _, _, _, _, h => by have := h.2.2.le; omega
theorem RecsP.snoc {cur cur2 : List Bk} {pv : PvM} {k : Nat} {d : List UInt8} : ∀ {rs : List Rc} {p : Nat} {s : List UInt8} {e : Nat} {t : List UInt8}, RecsP cur pv p s rs e t → (∀ i, i < e → cur2[i]? = cur[i]?) → (∃ z, rdB cur2 e (cstB d.length) = spS t k d ++ List.replicate z 0) → RecsP cur2 (put pv (e : Int) t) p s (rs ++ [(k, d)]) (e + cstB d.length) (spN t k d)
  | [], p, s, e, t, h, _, hr => by
    obtain ⟨rfl, rfl⟩ := h
    exact ⟨hr, by rw [xH, if_pos R], R, R⟩
  | r :: rs, p, s, e, t, h, hc, hr => by
    obtain ⟨⟨z, h1⟩, h2, h3⟩ := h
    have hl := h3.le
    have hp := @cstB_pos r.2.length
    refine ⟨⟨z, ?_⟩, ?_, h3.snoc hc hr⟩
    · rw [rdB_eq fun i _ hi => hc i (by omega)]; exact h1
    · rw [xH, if_neg (by omega)]; exact h2
def hfN (N : Nat) : Nat := (N - 2) / 2
def bsN (N tn : Nat) : Nat := 2 + tn % 2 * hfN N
def RcOk (r : Rc) : Prop := 1 ≤ r.1 ∧ r.1 ≤ 200 ∧ r.2.length ≤ 4096
def csts (rs : List Rc) : Nat := (rs.map fun r => cstB r.2.length).sum
theorem RecsP.end {cur : List Bk} {pv : PvM} : ∀ {rs : List Rc} {p : Nat} {s : List UInt8} {e : Nat} {t : List UInt8}, RecsP cur pv p s rs e t → e = p + csts rs
  | [], _, _, _, _, h => by rw [← h.1]; rfl
  | r :: rs, _, _, _, _, h => by rw [h.2.2.end]; unfold csts; rw [List.map_cons, List.sum_cons]; omega
theorem RecsP.at {cur : List Bk} {pv : PvM} {r : Rc} {ss : List Rc} : ∀ {rs : List Rc} {p : Nat} {s : List UInt8} {e : Nat} {t : List UInt8}, RecsP cur pv p s (rs ++ r :: ss) e t → ∃ s2, (∃ z, rdB cur (p + csts rs) (cstB r.2.length) = spS s2 r.1 r.2 ++ List.replicate z 0) ∧ look pv ((p + csts rs : Nat) : Int) = some s2 ∧ p + csts rs + cstB r.2.length ≤ e
  | [], p, s, e, t, h => ⟨s, h.1, h.2.1, h.2.2.le⟩
  | q :: rs, p, s, e, t, h => by
    obtain ⟨s2, a, b, c⟩ := h.2.2.at
    have e2 : p + csts (q :: rs) = p + cstB q.2.length + csts rs := by unfold csts; rw [List.map_cons, List.sum_cons]; omega
    rw [e2]
    exact ⟨s2, a, b, c⟩
structure BkX where
  cur : List Bk
  pv : PvM
  e : Nat
  sm : List UInt8
  bp : Nat
def BokP (N tn : Nat) (rs : List Rc) (x : BkX) : Prop := x.cur.length = N ∧ RecsP x.cur x.pv (bsN N tn) (sdT tn) rs x.e x.sm ∧ x.e ≤ bsN N tn + hfN N ∧ (∀ r ∈ rs, RcOk r) ∧ 4 ≤ N ∧ N ≤ 60000 ∧ tn ≤ 1000000
def BkX.nx (x : BkX) (k : Nat) (d : List UInt8) : BkX where
  cur := wrC x.cur x.e (splB (spS x.sm k d))
  pv := put x.pv (x.e : Int) x.sm
  e := x.e + cstB d.length
  sm := spN x.sm k d
  bp := x.bp
theorem BokP.app {N tn : Nat} {rs : List Rc} {x : BkX} (h : BokP N tn rs x) {k : Nat} {d : List UInt8} (hk : RcOk (k, d)) (hl : x.e + cstB d.length ≤ bsN N tn + hfN N) : BokP N tn (rs ++ [(k, d)]) (x.nx k d) := by
  obtain ⟨h1, h2, h3, h4, h5, h6, h7⟩ := h
  have k1 := hk.1
  have k2 := hk.2.1
  have k3 := hk.2.2
  dsimp only at k1 k2 k3
  have hs := @spS_len x.sm d k k1 k2
  obtain ⟨a, b, z, c⟩ := splB_ok _ (spS x.sm k d) (Nat.le_refl _) (by omega)
  have hce := @cst_eq x.sm d k k1 k2
  have hb : bsN N tn + hfN N ≤ N := by
    unfold bsN hfN
    rcases Nat.mod_two_eq_zero_or_one tn with q | q <;> rw [q] <;> omega
  have hfit : x.e + (splB (spS x.sm k d)).length ≤ x.cur.length := by rw [a]; omega
  have g2 : RecsP (wrC x.cur x.e (splB (spS x.sm k d))) (put x.pv (x.e : Int) x.sm) (bsN N tn) (sdT tn) (rs ++ [(k, d)]) (x.e + cstB d.length) (spN x.sm k d) := by
    refine RecsP.snoc (cur := x.cur) h2 (fun i hi => ?_) ⟨z, ?_⟩
    · rw [wrC_get _ _ _ _ hfit, if_neg (by omega)]
    · rw [hce, ← a, rdB_wr hfit, c]
  unfold BokP BkX.nx
  dsimp only
  refine ⟨(wrC_len _ _ _).trans h1, g2, hl, fun r hr => ?_, h5, h6, h7⟩
  rcases List.mem_append.1 hr with q | q
  · exact h4 r q
  · rw [List.mem_singleton.1 q]; exact ⟨k1, k2, k3⟩
theorem ph_zero : intR (bytB ⟨List.replicate 64 (0 : UInt8), 0⟩ 32).2 1125899906842624 = (0, ⟨List.replicate 31 0, 0⟩) := by rfl
theorem bsN_le {N t : Nat} (h : 2 ≤ N) : bsN N t + hfN N ≤ N := by
  unfold bsN hfN
  rcases Nat.mod_two_eq_zero_or_one t with q | q <;> rw [q] <;> omega

theorem hof2_spec {a2 : Option Addr} {c2 : Nat} {p q : List UInt8} (hm : p.length + q.length ≤ 35184372088832) : Spec Tryz.prog 121 [.slice a2 2 c2] [rsl 1 a2 2 c2 ([p, q].map ys)] [] (fun v D' M' => ∃ dg, v = .agg (dg.map Y).toArray ∧ dg = digest (p ++ q) ∧ D' = [] ∧ M' = []) := by
 have h := hof_spec (a2 := a2) (k := 2) (c2 := c2) (ls := [p, q]) (by simp; omega) (by simp)
 exact h.imp (fun v D' M' ⟨h1, h2, h3⟩ => ⟨_, h1, by simp, h2, h3⟩)
theorem sects_spec {n : Nat} (hn : n ≤ 1000000000) : Spec Tryz.prog 77 [.int .i64 (n : Int)] [] [] (fun v D' M' => v = .int .i64 ((n + 63) / 64 : Nat) ∧ D' = [] ∧ M' = []) := by
 refine zv (n := 7) Tryz.func77 ?_
 intro σ D M
 refine O (V R R (I (O (E R R (zT R R R jO ?_)))))
 refine yt R R R jO ?_
 refine L.quoN R R R qI ?_
 exact V R R (I (zo (zy R R ⟨congrArg (Value.int .i64) jO, R, R⟩ qD qF)))
theorem cost_spec {d : Nat} (hd : d ≤ 1000000) : Spec Tryz.prog 34 [.int .i64 (d : Int)] [] [] (fun v D' M' => v = .int .i64 (cstB d : Nat) ∧ D' = [] ∧ M' = []) := by
 refine zv (n := 13) Tryz.func34 ?_
 intro σ D M
 have hd9 := numB_len (n := d) jO
 have h19 := numB_len (n := 1) jD
 have hln : (numB 1 ++ numB d).length = (numB 1).length + (numB d).length := List.length_append
 refine O (V R R (I (O (E R R (L.maxI R R R ?_)))))
 refine zE (t := 4) (u := .int .i64 ((d : Nat) : Int)) R (congrArg (Value.int .i64) jO) ?_
 refine V R R (I (O (E R R (yl R bs221 jD (zF R R R <| zF R R R <| zQ (out := []) R) (fun b6 => ?_)))))
 refine yR (len := 2) qP (rows := ([1, (d : Int)] : List Int).map e3) (sz := 1) (by rfl) R (by simp) ?_
 refine yF qP ?_
 refine zp R (ev1 R) qD qS (bnums_spec (xs := [1, (d : Int)]) jD (by simp; omega)) ?_
 rintro _ _ _ ⟨rfl, rfl, rfl⟩
 refine zm qA qA ?_
 refine zE (t := 7) (u := S (numB 1 ++ numB d)) R (congrArg S (by simp)) ?_
 refine yL R ye R (zT R R R jO ?_)
 refine E R R (zT R R R jO ?_)
 refine zE (t := 11) (u := .int .i64 ((32 + ((numB 1).length + (numB d).length) + d : Nat) : Int)) R (congrArg (Value.int .i64) jO) ?_
 refine zH R (ev1 R) qD qS (sects_spec (n := 32 + ((numB 1).length + (numB d).length) + d) jO) jF ?_
 exact V R R (I (zo (zy R R ⟨R, R, R⟩ qD qF)))
theorem spell_spec {s d : List UInt8} {k : Nat} (hs : s.length ≤ 100) (hk : k ≤ 1000) (hd : d.length ≤ 5000) : Spec Tryz.prog 133 [S s, .int .i64 (k : Int), S d] [] [] (fun v D' M' => v = .tuple #[S (spS s k d), S (spN s k d)] ∧ D' = [] ∧ M' = []) := by
 refine zv (n := 26) Tryz.func133 ?_
 intro σ D M
 have hk9 := numB_len (n := k) jO
 have hd9 := numB_len (n := d.length) jO
 have hsb : (strB d).length = (numB d.length).length + d.length := by unfold strB; rw [List.length_append]
 refine O (V R R (V R R (I (O (E R R (yl R bs221 jD (zF R R R <| zQ (out := []) R) (fun b11 => ?_)))))))
 refine yR (len := 1) qP (rows := ([(k : Int)] : List Int).map e3) (sz := 1) (by rfl) R (by simp) ?_
 refine yF qP ?_
 refine zp R (ev1 R) qD qS (bnums_spec (xs := [(k : Int)]) jD (by simp; omega)) ?_
 rintro _ _ _ ⟨rfl, rfl, rfl⟩
 refine zm qA qA ?_
 refine zE (t := 12) (u := S (numB k)) R (congrArg S (by simp)) ?_
 refine E R R (zH R (ev1 R) qD qS (bstr_spec (s := d) jO) jF ?_)
 refine L.addS R R R qI ?_
 refine V R R (I (O (E R R (E R R (yl R bs27 jD (zF R R R <| zF R R R <| zQ (out := []) R) (fun b18 => ?_))))))
 refine yR (len := 2) qP (rows := ([s, numB k ++ strB d] : List (List UInt8)).map ys) (sz := 1) (by rfl) R (by simp) ?_
 refine yF qP ?_
 refine zp R (ev1 R) qD qS (hof2_spec (p := s) (q := numB k ++ strB d) (by rw [List.length_append]; omega)) ?_
 rintro _ _ _ ⟨dg, rfl, hdg, rfl, rfl⟩
 refine zm qA qA ?_
 have h32 : dg.length = 32 := by rw [hdg]; exact xE _
 have h32b : (dg.map Y).length = 32 := by rw [List.length_map]; exact h32
 refine zC R ze37 (fun b9 => ?_)
 refine zz ag37 R R qL qO qU qW ?_
 refine zu (T.toOwn (b := b9) (len := 32) qP (rows := (dg).map yr) (sz := 1) (yr_flat _) (by rw [List.length_map]; exact h32) (by simp) ?_)
 refine yQ qP ?_
 refine z8 (ze ?_)
 have hbl : (numB k ++ strB d).length ≤ 6000 := by rw [List.length_append]; omega
 obtain ⟨bd, hbd⟩ : ∃ z, z = numB k ++ strB d := ⟨_, rfl⟩
 rw [← hbd] at hbl hdg ⊢
 refine xg qk qk (xB R xU sz5 R xb xb qI qI ?_)
 refine zE (t := 20) (u := .slice (some ⟨b9, 0, none⟩) 32 32) R (by first | rfl | simp [cutA, Addr.add]) ?_
 refine xL R yz zX ye R qM ?_
 refine E R R (L.addS R R R qI ?_)
 refine xB R xU sz5 R xb xb qI qI ?_
 refine zE (t := 24) (u := .slice (some ⟨b9, 0, none⟩) 32 32) R (by first | rfl | simp [cutA, Addr.add]) ?_
 refine xL R yz zX ye R qM ?_
 exact V R R (V R R (yY (z8 (zo (x8 R R R ⟨by unfold spS spN; rw [← hbd, ← hdg], R, R⟩ qD qF)))))
theorem seed_spec {t : Nat} (ht : t ≤ 4611686018427387904) : Spec Tryz.prog 161 [.int .i64 (t : Int)] [] [] (fun v D' M' => v = S (sdT t) ∧ D' = [] ∧ M' = []) := by
 refine zv (n := 11) Tryz.func161 ?_
 intro σ D M
 have ht9 := numB_len (n := t) jO
 refine O (V R R (I (O (E R R (yl R bs221 jD (zF R R R <| zQ (out := []) R) (fun b5 => ?_))))))
 refine yR (len := 1) qP (rows := ([(t : Int)] : List Int).map e3) (sz := 1) (by rfl) R (by simp) ?_
 refine yF qP ?_
 refine zp R (ev1 R) qD qS (bnums_spec (xs := [(t : Int)]) jD (by simp; omega)) ?_
 rintro _ _ _ ⟨rfl, rfl, rfl⟩
 refine zm qA qA ?_
 refine zE (t := 6) (u := S (numB t)) R (congrArg S (by simp)) ?_
 refine yl R bs27 jD (zF R R R <| zF R R R <| zQ (out := []) R) (fun b7 => ?_)
 refine yR (len := 2) qP (rows := ([[116, 117, 114, 110], numB t] : List (List UInt8)).map ys) (sz := 1) (by rfl) R (by simp) ?_
 refine yF qP ?_
 refine zp R (ev1 R) qD qS (hof2_spec (p := [116, 117, 114, 110]) (q := numB t) (by simp only [List.length_cons, List.length_nil]; omega)) ?_
 rintro _ _ _ ⟨dg, rfl, hdg, rfl, rfl⟩
 refine zm qA qA ?_
 have h32 : dg.length = 32 := by rw [hdg]; exact xE _
 have h32b : (dg.map Y).length = 32 := by rw [List.length_map]; exact h32
 refine zC R ze37 (fun b3 => ?_)
 refine zz ag37 R R qL qO qU qW ?_
 refine zu (T.toOwn (b := b3) (len := 32) qP (rows := (dg).map yr) (sz := 1) (yr_flat _) (by rw [List.length_map]; exact h32) (by simp) ?_)
 refine yQ qP ?_
 refine z8 (O (xB R xU sz5 R xb xb qI qI ?_))
 refine zE (t := 9) (u := .slice (some ⟨b3, 0, none⟩) 32 32) R (by first | rfl | simp [cutA, Addr.add]) ?_
 refine xL R yz zX ye R qM ?_
 exact V R R (I (zo (zy R R ⟨by unfold sdT; rw [← hdg], R, R⟩ qD qF)))
theorem head_spec {t : Nat} (ht : t ≤ 4611686018427387904) : Spec Tryz.prog 160 [.int .i64 (t : Int)] [] [] (fun v D' M' => v = S (hdT t) ∧ D' = [] ∧ M' = []) := by
 refine zv (n := 15) Tryz.func160 ?_
 intro σ D M
 have ht9 := numB_len (n := t) jO
 refine O (V R R (I (O (E R R (yl R bs221 jD (zF R R R <| zQ (out := []) R) (fun b6 => ?_))))))
 refine yR (len := 1) qP (rows := ([(t : Int)] : List Int).map e3) (sz := 1) (by rfl) R (by simp) ?_
 refine yF qP ?_
 refine zp R (ev1 R) qD qS (bnums_spec (xs := [(t : Int)]) jD (by simp; omega)) ?_
 rintro _ _ _ ⟨rfl, rfl, rfl⟩
 refine zm qA qA ?_
 refine zE (t := 7) (u := S (numB t)) R (congrArg S (by simp)) ?_
 refine V R R (I (O (E R R (yl R bs27 jD (zF R R R <| zF R R R <| zQ (out := []) R) (fun b9 => ?_)))))
 refine yR (len := 2) qP (rows := ([[104, 101, 97, 100], numB t] : List (List UInt8)).map ys) (sz := 1) (by rfl) R (by simp) ?_
 refine yF qP ?_
 refine zp R (ev1 R) qD qS (hof2_spec (p := [104, 101, 97, 100]) (q := numB t) (by simp only [List.length_cons, List.length_nil]; omega)) ?_
 rintro _ _ _ ⟨dg, rfl, hdg, rfl, rfl⟩
 refine zm qA qA ?_
 have h32 : dg.length = 32 := by rw [hdg]; exact xE _
 have h32b : (dg.map Y).length = 32 := by rw [List.length_map]; exact h32
 refine zC R ze37 (fun b4 => ?_)
 refine zz ag37 R R qL qO qU qW ?_
 refine zu (T.toOwn (b := b4) (len := 32) qP (rows := (dg).map yr) (sz := 1) (yr_flat _) (by rw [List.length_map]; exact h32) (by simp) ?_)
 refine yQ qP ?_
 refine z8 (O (xB R xU sz5 R xb xb qI qI ?_))
 refine zE (t := 11) (u := .slice (some ⟨b4, 0, none⟩) 32 32) R (by first | rfl | simp [cutA, Addr.add]) ?_
 refine xL R yz zX ye R qM ?_
 refine E R R (L.addS R R R qI ?_)
 exact V R R (I (zo (zy R R ⟨by unfold hdT; rw [← hdg], R, R⟩ qD qF)))
theorem phead_spec   : Spec Tryz.prog 95 [S (List.replicate 64 (0 : UInt8))] [] [] (fun v D' M' => v = .int .i64 0 ∧ D' = [] ∧ M' = []) := by
 refine zv (n := 26) Tryz.func95 ?_
 intro σ D M
 refine O (V R R (I (O (E R R (zp R (ev1 R) qD qS (bopen_spec (s := List.replicate 64 (0 : UInt8))) ?_)))))
 rintro _ _ _ ⟨bb, rfl, rfl, rfl⟩
 refine zm qA qA ?_
 refine V R R (I (O (E R R (zp R (ev2 R R) qD qS (bbytes_spec (b := ⟨List.replicate 64 (0 : UInt8), 0⟩) (n := 32) jD) ?_))))
 rintro _ _ _ ⟨rfl, rfl, rfl⟩
 refine zm qA qA ?_
 refine I (O (E R R (zp R (ev2 R R) qD qS (bint_spec (b := (bytB ⟨List.replicate 64 (0 : UInt8), 0⟩ 32).2) (top := 1125899906842624) jD) ?_)))
 rintro _ _ _ ⟨rfl, rfl, rfl⟩
 refine zm qA qA ?_
 rw [ph_zero]
 refine V R R (I (ze (O (E R R (zp R (ev1 R) qD qS (berr_spec) ?_)))))
 rintro _ _ _ ⟨rfl, rfl, rfl⟩
 refine zm qA qA ?_
 refine zZ R R R (E R R (zE (t := 14) R (show _ = Value.bool false from congrArg Value.bool jD) ?_))
 refine zj 14 R R R (E R R (zj 14 R R R (zW R R R (yg R R R (E R R (zE (t := 18) R (show _ = Value.bool true from congrArg Value.bool jD) ?_))))))
 refine zw 18 true R R R R R jD (zw 18 true R R R R R jD (zw 18 true R R R R R jD (zw 18 true R R R R R jD (zw 18 true R R R R R jD (ym R R R (I (yV R R ?_)))))))
 exact O (V R R (I (zo (zL (zy R R ⟨R, R, R⟩ qD qF)))))
theorem split_spec {s : List UInt8} (hs : s.length ≤ 100000) : Spec Tryz.prog 135 [S s] [] [] (fun v D' M' => ∃ (a' : Option Addr) (n' c' : Nat), v = .slice a' n' c' ∧ ((splB s).length = n') ∧ D' = [] ∧ M' = [own 1 9 a' n' c' ((splB s).map ys)]) := by
 refine zv (n := 18) Tryz.func135 ?_
 intro σ D M
 refine O (V R R (I (O (V R R (zu (yM (sz := 1) (e := 9) ?_))))))
 refine y3 qP (show own 1 9 none 0 0 [] = own 1 9 none 0 0 ((([] : List (List UInt8))).map ys) from R) ?_
 refine z8 (ze (zD (y8 (fun K' D' M' μ => ∃ (r : List UInt8) (on_ oc : Nat) (oa : Option Addr) (acc : List (List UInt8)), (acc ++ splB r = splB s ∧ acc.length = on_ ∧ 64 * on_ + r.length ≤ 100000) ∧ K' = [(0, S r), (3, .slice oa on_ oc)] ∧ D' = [] ∧ M' = [own 1 9 oa on_ oc ((acc).map ys)] ∧ μ = r.length) (zd _) (⟨s, 0, 0, none, [], ⟨R, R, by omega⟩, R, R, R, R⟩) (.c 0 R <| .c 3 R <| zd _) qD qS ?_)))
 rintro K1 D1 M1 m1 ⟨r, on_, oc, oa, acc, ⟨hsp, hal, hrl⟩, rfl, rfl, rfl, rfl⟩
 refine zM qA qA qA ?_
 refine ze (O (E R R (yL R ye R (yy R R R (I (zA R (fun h6 => ?_) (fun h6 => ?_)))))))
 ·try simp only [dq] at h6
  refine zq (z8 (zD (O (E R R (E R R (L.sliceS (a := 0) (b := _) R ye R R ⟨_, (by first | rfl | (congr 2; omega))⟩ qI qI ?_))))))
  refine zE (t := 9) (u := S (r.take 64)) R (congrArg S (by rw [List.drop_zero])) ?_
  refine yl R bs27 jD (zF R R R <| zQ (out := []) R) (fun b10 => ?_)
  refine x6 R xp el9 R R qP qM R qO1 qI qI (fun a11 c11 => ?_)
  refine V R R (I (zt (E R R (L.sliceS (a := _) (b := _) R ye R ⟨_, (by first | rfl | (congr 2; omega))⟩ R qI qI ?_))))
  refine zE (t := 13) (u := S (r.drop 64)) R (congrArg S (by rw [List.take_of_length_le jO])) ?_
  refine V R R (zu (zS (z8 (yp _ ((acc ++ [r.take 64]).map ys) qP (by rw [List.map_append]; rfl) ?_))))
  exact zV ⟨r.drop 64, on_ + 1, _, _, acc ++ [r.take 64], ⟨by rw [List.append_assoc, List.singleton_append, ← splB_s jO]; exact hsp, by rw [List.length_append, hal]; rfl, by rw [List.length_drop]; omega⟩, R, R, R, R⟩ (by rw [List.length_drop]; omega) (.c 0 R <| .c 3 R <| zd _) (zd _) qD qD qF
 try simp only [dq] at h6
 rw [splB_e jO] at hsp
 refine y4 (zG (zG (y5 (z8 (O (E R R (E R R (yl R bs27 jD (zF R R R <| zQ (out := []) R) (fun b16 => ?_)))))))))
 refine x6 R xp el9 R R qP qM R qO1 qI qI (fun a17 c17 => ?_)
 refine V R R (I (zo (yp _ ((splB s).map ys) qP (by rw [← hsp, List.map_append]; rfl) ?_)))
 exact zy R R ⟨_, _, _, R, by rw [← hsp, List.length_append, hal]; rfl, R, R⟩ qD qF
end Cv
set_option maxRecDepth 10000
namespace Cv
open Go Go.Proofs
def bkA (bb : Nat) (k : Dk) (f : Fz) (tn : Nat) (rs : List Rc) : Asn := exP (fun x : BkX => BokP k.n tn rs x) (fun x => [cl bb 124 [.pointer (some ⟨k.bd, 0, none⟩), .int .i64 ((tn : Nat) : Int), S (x.sm), .int .i64 ((x.e : Nat) : Int), .map (some x.bp)], dkA k f x.cur, mp x.bp iK S x.pv])
section
variable {σ : World} {n : Nat} {G : Act → World → Prop} {K : Env} {D M N : List Asn} {k : Dk} {f : Fz} {bb tn : Nat} {rs : List Rc}
theorem T.bkU (hM : Pull (bkA bb k f tn rs) M N) (next : ∀ x : BkX, BokP k.n tn rs x → T σ n G K D (cl bb 124 [.pointer (some ⟨k.bd, 0, none⟩), .int .i64 ((tn : Nat) : Int), S (x.sm), .int .i64 ((x.e : Nat) : Int), .map (some x.bp)] :: dkA k f x.cur :: mp x.bp iK S x.pv :: N)) : T σ n G K D M := T.exU hM fun x h => next x h
theorem T.bkF {cur : List Bk} {pv : PvM} {e : Nat} {sm : List UInt8} {bp : Nat} (h : BokP k.n tn rs ⟨cur, pv, e, sm, bp⟩) (hM : Sel [cl bb 124 [.pointer (some ⟨k.bd, 0, none⟩), .int .i64 ((tn : Nat) : Int), S (sm), .int .i64 ((e : Nat) : Int), .map (some bp)], dkA k f cur, mp bp iK S pv] M N) (next : T σ n G K D (bkA bb k f tn rs :: N)) : T σ n G K D M := T.exF (⟨cur, pv, e, sm, bp⟩ : BkX) h hM next
end

theorem half_spec {bb : Nat} {k : Dk} {t e : Int} {s : List UInt8} {pv : Value}  (h2 : 2 ≤ k.n) (hn : k.n ≤ 60000) : Spec Tryz.prog 93 [.pointer (some ⟨bb, 0, none⟩)] [cl k.bd 51 [.pointer (some ⟨k.bf, 0, none⟩), .slice (some ⟨k.sb, 0, none⟩) k.n k.n, .map (some k.bl)]] [cl bb 124 [.pointer (some ⟨k.bd, 0, none⟩), .int .i64 t, S (s), .int .i64 e, pv]] (fun v D' M' => v = .int .i64 (hfN k.n : Nat) ∧ D' = [] ∧ M' = [cl bb 124 [.pointer (some ⟨k.bd, 0, none⟩), .int .i64 t, S (s), .int .i64 e, pv]]) := by
 refine zv (n := 10) Tryz.func93 ?_
 intro σ D M
 refine O (V R R (I (O (E R R (zJ R R ?_)))))
 refine zg R fo124_0 R ?_
 refine zf R sc23 R qC ?_
 refine zH R (ev1 R) qD qS (size3_spec) jF ?_
 refine yt R R R jO ?_
 refine L.quoN R R R qI ?_
 exact V R R (I (zo (zy R R ⟨congrArg (Value.int .i64) (by unfold hfN; omega), R, R⟩ qD qF)))
theorem from_spec {bb : Nat} {k : Dk} {t e : Int} {s : List UInt8} {pv : Value} {u : Nat} (h2 : 2 ≤ k.n) (hn : k.n ≤ 60000) : Spec Tryz.prog 103 [.pointer (some ⟨bb, 0, none⟩), .int .i64 (u : Int)] [cl k.bd 51 [.pointer (some ⟨k.bf, 0, none⟩), .slice (some ⟨k.sb, 0, none⟩) k.n k.n, .map (some k.bl)]] [cl bb 124 [.pointer (some ⟨k.bd, 0, none⟩), .int .i64 t, S (s), .int .i64 e, pv]] (fun v D' M' => v = .int .i64 (bsN k.n u : Nat) ∧ D' = [] ∧ M' = [cl bb 124 [.pointer (some ⟨k.bd, 0, none⟩), .int .i64 t, S (s), .int .i64 e, pv]]) := by
 refine zv (n := 11) Tryz.func103 ?_
 intro σ D M
 have hfb : hfN k.n ≤ 60000 := by unfold hfN; omega
 refine O (V R R (I (O (E R R (L.remN R R R qI ?_)))))
 refine zE (t := 6) (u := .int .i64 ((u % 2 : Nat) : Int)) R (congrArg (Value.int .i64) jO) ?_
 refine E R R (zH R (ev1 R) qD qS (half_spec h2 hn) jF ?_)
 refine L.mulN R R R (by rcases Nat.mod_two_eq_zero_or_one u with q | q <;> rw [q] <;> omega) ?_
 refine zT R R R (by rcases Nat.mod_two_eq_zero_or_one u with q | q <;> rw [q] <;> omega) ?_
 exact V R R (I (zo (zy R R ⟨R, R, R⟩ qD qF)))
theorem begin_spec {bb : Nat} {k : Dk} {t e : Int} {s : List UInt8} {pv : Value} {u : Nat} (h2 : 2 ≤ k.n) (hn : k.n ≤ 60000) (hu : u ≤ 2000000) : Spec Tryz.prog 96 [.pointer (some ⟨bb, 0, none⟩), .int .i64 (u : Int)] [cl k.bd 51 [.pointer (some ⟨k.bf, 0, none⟩), .slice (some ⟨k.sb, 0, none⟩) k.n k.n, .map (some k.bl)]] [cl bb 124 [.pointer (some ⟨k.bd, 0, none⟩), .int .i64 t, S (s), .int .i64 e, pv]] (fun v D' M' => ∃ (bp : Nat), v = .tuple #[] ∧ D' = [] ∧ M' = [cl bb 124 [.pointer (some ⟨k.bd, 0, none⟩), .int .i64 (u : Int), S (sdT u), .int .i64 (bsN k.n u : Nat), .map (some bp)], mp bp iK S ([] : PvM)]) := by
 refine zv (n := 23) Tryz.func96 ?_
 intro σ D M
 refine zt (E R R (E R R (E R R (E R R (E R R (E R R (zH R (ev1 R) qD qS (seed_spec (t := u) jO) jF ?_)))))))
 refine E R R (E R R (zH R (ev2 R R) qD qS (from_spec h2 hn) jF ?_))
 refine xN iK S R (fun bp => ?_)
 refine zJ R R ?_
 refine zg R fo124_1 R ?_
 refine yj sc3 R R R qU qE ?_
 refine zJ R R ?_
 refine zg R fo124_2 R ?_
 refine yj sc9 R R R qU qE ?_
 refine zJ R R ?_
 refine zg R fo124_3 R ?_
 refine yj sc3 R R R qU qE ?_
 refine zJ R R ?_
 refine zg R fo124_4 R ?_
 refine yj sc122 R R R qU qE ?_
 exact zu (yS (by simp) R ⟨_, R, R, R⟩ qD qF)
theorem left_spec {bb tn e : Nat} {k : Dk} {s : List UInt8} {pv : Value} (h2 : 2 ≤ k.n) (hn : k.n ≤ 60000) (he : e ≤ bsN k.n tn + hfN k.n) : Spec Tryz.prog 56 [.pointer (some ⟨bb, 0, none⟩)] [cl k.bd 51 [.pointer (some ⟨k.bf, 0, none⟩), .slice (some ⟨k.sb, 0, none⟩) k.n k.n, .map (some k.bl)]] [cl bb 124 [.pointer (some ⟨k.bd, 0, none⟩), .int .i64 (tn : Int), S (s), .int .i64 (e : Int), pv]] (fun v D' M' => v = .int .i64 (bsN k.n tn + hfN k.n - e : Nat) ∧ D' = [] ∧ M' = [cl bb 124 [.pointer (some ⟨k.bd, 0, none⟩), .int .i64 (tn : Int), S (s), .int .i64 (e : Int), pv]]) := by
 refine zv (n := 17) Tryz.func56 ?_
 intro σ D M
 have hfb : hfN k.n ≤ 60000 := by unfold hfN; omega
 have hbb := @bsN_le k.n tn h2
 refine O (V R R (I (ze (xg qk qk (E R R (E R R (zJ R R ?_)))))))
 refine zg R fo124_1 R ?_
 refine zf R sc3 R qC ?_
 refine zH R (ev2 R R) qD qS (from_spec h2 hn) jF ?_
 refine E R R (zH R (ev1 R) qD qS (half_spec h2 hn) jF ?_)
 refine zT R R R jO ?_
 refine E R R (zJ R R ?_)
 refine zg R fo124_3 R ?_
 refine zf R sc3 R qC ?_
 refine yt R R R jO ?_
 refine zE (t := 16) (u := .int .i64 ((bsN k.n tn + hfN k.n - e : Nat) : Int)) R (congrArg (Value.int .i64) jO) ?_
 exact V R R (yY (z8 (zo (zy R R ⟨R, R, R⟩ qD qF))))
end Cv
set_option maxRecDepth 10000
namespace Cv
open Go Go.Proofs
/-! ## books: a record looked at -/
theorem rdB_len {cur : List Bk} {p : Nat} : ∀ {n : Nat}, p + n ≤ cur.length → (rdB cur p n).length = 64 * n
  | 0, _ => rfl
  | n + 1, h => by
    have hg : cur[p + n]? = some (cur.getD (p + n) zB) := get_getD (by omega)
    rw [rdB_s hg, List.length_append, rdB_len (by omega), (cur.getD (p + n) zB).2]; omega
theorem rdB_cat {cur : List Bk} {p a : Nat} : ∀ {b : Nat}, p + (a + b) ≤ cur.length → rdB cur p (a + b) = rdB cur p a ++ rdB cur (p + a) b
  | 0, _ => by rw [show rdB cur (p + a) 0 = [] from rfl, List.append_nil]; rfl
  | b + 1, h => by
    have hg : cur[p + (a + b)]? = some (cur.getD (p + (a + b)) zB) := get_getD (by omega)
    have hg2 : cur[p + a + b]? = some (cur.getD (p + (a + b)) zB) := by rw [show p + a + b = p + (a + b) by omega]; exact hg
    rw [show a + (b + 1) = (a + b) + 1 by omega, rdB_s hg, rdB_cat (by omega), rdB_s hg2, List.append_assoc]
theorem rdB_1 {cur : List Bk} {p n : Nat} (h : p + n ≤ cur.length) (h1 : 1 ≤ n) : rdB cur p 1 = (rdB cur p n).take 64 := by
  have e := @rdB_cat cur p 1 (n - 1) (by omega)
  rw [show 1 + (n - 1) = n by omega] at e
  have l := @rdB_len cur p 1 (by omega)
  rw [e, List.take_append_of_le_length (by omega), List.take_of_length_le (by omega)]
def RdAt (cur : List Bk) (p : Nat) (s : List UInt8) (k : Nat) (d : List UInt8) : Prop := ∃ z, rdB cur p (cstB d.length) = spS s k d ++ List.replicate z 0
theorem lk_parts {cur : List Bk} {p k : Nat} {s d : List UInt8} (hk : RcOk (k, d)) (h : RdAt cur p s k d) (hp : p + cstB d.length ≤ cur.length) : ∃ r, ((rdB cur p 1).take (rdB cur p 1).length).drop 32 = numB k ++ (numB d.length ++ r) ∧ r.length + (2 + (numB d.length).length) = 32 := by
  obtain ⟨z, h⟩ := h
  obtain ⟨k1, k2, k3⟩ := hk
  dsimp only at k1 k2 k3
  have hn := numB_3 (n := d.length) (by omega)
  have hl := @rdB_len cur p _ hp
  have hz : (spS s k d).length + z = 64 * cstB d.length := by rw [← hl, h, List.length_append, List.length_replicate]
  have hsl := @spS_len s d k k1 k2
  have hc := @cstB_pos d.length
  refine ⟨(d ++ List.replicate z 0).take (30 - (numB d.length).length), ?_, ?_⟩
  · rw [List.take_length, rdB_1 hp hc, h]
    unfold spS
    have h32 : (spN s k d).length = 32 := xE _
    rw [List.append_assoc, List.take_append, List.take_of_length_le (by omega), h32, List.drop_append, List.drop_of_length_le (by omega), h32, List.nil_append, Nat.sub_self, List.drop_zero]
    unfold strB
    rw [List.append_assoc, List.append_assoc, List.take_append, List.take_of_length_le (by rw [numB_1 k1 (by omega)]; omega), numB_1 k1 (by omega), List.take_append, List.take_of_length_le (by omega), show 64 - 32 - 2 - (numB d.length).length = 30 - (numB d.length).length by omega]
  · rw [List.length_take, List.length_append, List.length_replicate]; omega
theorem lk_data {cur : List Bk} {p k : Nat} {s d : List UInt8} (hk : RcOk (k, d)) (h : RdAt cur p s k d) : ((rdB cur p (cstB d.length)).take (34 + (numB d.length).length + d.length)).drop (34 + (numB d.length).length) = d := by
  obtain ⟨z, h⟩ := h
  obtain ⟨k1, k2, k3⟩ := hk
  dsimp only at k1 k2 k3
  have hsl := @spS_len s d k k1 k2
  rw [h, List.take_append_of_le_length (by omega), List.take_of_length_le (by omega)]
  unfold spS strB
  have h32 : (spN s k d).length = 32 := xE _
  rw [← List.append_assoc, ← List.append_assoc, List.drop_append, List.drop_of_length_le (by rw [List.length_append, List.length_append, h32, numB_1 k1 (by omega)]; omega), List.length_append, List.length_append, h32, numB_1 k1 (by omega), List.nil_append, show 34 + (numB d.length).length - (32 + 2 + (numB d.length).length) = 0 by omega, List.drop_zero]
theorem lk_pre {cur : List Bk} {p k : Nat} {s d : List UInt8} (h : RdAt cur p s k d) : spS s k d <+: rdB cur p (cstB d.length) := by
  obtain ⟨z, h⟩ := h
  exact ⟨_, h.symm⟩
theorem RecsP.slen {cur : List Bk} {pv : PvM} : ∀ {rs : List Rc} {p : Nat} {s : List UInt8} {e : Nat} {t : List UInt8}, RecsP cur pv p s rs e t → s.length = 32 → t.length = 32
  | [], _, _, _, _, h, k => by rw [← h.2]; exact k
  | r :: rs, _, _, _, _, h, _ => h.2.2.slen (xE _)
theorem RecsP.at2 {cur : List Bk} {pv : PvM} {r : Rc} {ss : List Rc} : ∀ {rs : List Rc} {p : Nat} {s : List UInt8} {e : Nat} {t : List UInt8}, s.length = 32 → RecsP cur pv p s (rs ++ r :: ss) e t → ∃ s2, s2.length = 32 ∧ RdAt cur (p + csts rs) s2 r.1 r.2 ∧ look pv ((p + csts rs : Nat) : Int) = some s2 ∧ p + csts rs + cstB r.2.length ≤ e
  | [], p, s, e, t, hs, h => ⟨s, hs, h.1, h.2.1, h.2.2.le⟩
  | q :: rs, p, s, e, t, hs, h => by
    obtain ⟨s2, a, b, c, d⟩ := RecsP.at2 (xE _) h.2.2
    have e2 : p + csts (q :: rs) = p + cstB q.2.length + csts rs := by unfold csts; rw [List.map_cons, List.sum_cons]; omega
    rw [e2]
    exact ⟨s2, a, b, c, d⟩
theorem BokP.sl {N tn : Nat} {rs : List Rc} {x : BkX} (h : BokP N tn rs x) : x.sm.length = 32 := h.2.1.slen (xE _)
theorem BokP.en {N tn : Nat} {rs : List Rc} {x : BkX} (h : BokP N tn rs x) : x.e = bsN N tn + csts rs := h.2.1.end
theorem BokP.at {N tn : Nat} {r : Rc} {rs ss : List Rc} {x : BkX} (h : BokP N tn (rs ++ r :: ss) x) : ∃ s2, s2.length = 32 ∧ RdAt x.cur (bsN N tn + csts rs) s2 r.1 r.2 ∧ look x.pv ((bsN N tn + csts rs : Nat) : Int) = some s2 ∧ bsN N tn + csts rs + cstB r.2.length ≤ bsN N tn + hfN N := by
  obtain ⟨s2, a, b, c, d⟩ := RecsP.at2 (xE _) h.2.1
  exact ⟨s2, a, b, c, Nat.le_trans d h.2.2.1⟩
def rcF (f : Fz) (k : Nat) (d : List UInt8) (p : Nat) : List Value := if f = some 0 then [.int .i64 0, S [], .int .i64 0] else [.int .i64 (k : Int), S d, .int .i64 (p : Int)]
def apF (f : Fz) (rs : List Rc) (r : Rc) : List Rc := if f = some 0 then rs else rs ++ [r]

theorem shasp_spec {s m : List UInt8}  : Spec Tryz.prog 159 [S s, S m] [] [] (fun v D' M' => v = .bool (decide (s.take m.length = m)) ∧ D' = [] ∧ M' = []) := by
 refine zv (n := 8) Tryz.func159 ?_
 intro σ D M
 refine O (V R R (I (O (E R R (E R R (zH R (ev2 R R) qD qS (hasp_spec) jF ?_))))))
 exact V R R (I (zo (zy R R ⟨R, R, R⟩ qD qF)))
theorem bleft_spec {bb : Nat} {b : Bl}  : Spec Tryz.prog 205 [.pointer (some ⟨bb, 0, none⟩)] [] [cl bb 292 (blR (b))] (fun v D' M' => v = S b.left ∧ D' = [] ∧ M' = [cl bb 292 (blR (b))]) := by
 refine zv (n := 7) Tryz.func205 ?_
 intro σ D M
 refine O (V R R (I (O (E R R (zJ R R ?_)))))
 refine zg R fo292_0 R ?_
 refine zf R sc9 R qC ?_
 exact V R R (I (zo (zy R R ⟨R, R, R⟩ qD qF)))
theorem bintp_spec {bb n top : Nat} {r : List UInt8} (hn : n ≤ top) (ht : top ≤ 1000000000) : Spec Tryz.prog 157 [.pointer (some ⟨bb, 0, none⟩), .int .i64 (top : Int)] [] [cl bb 292 (blR ⟨numB n ++ r, 0⟩)] (fun v D' M' => v = .int .i64 (n : Int) ∧ D' = [] ∧ M' = [cl bb 292 (blR ⟨r, 0⟩)]) := by
 have h := bint_spec (bb := bb) (b := ⟨numB n ++ r, 0⟩) (top := top) jO
 rw [int_put hn jO] at h
 exact h
theorem bapp_spec {bb tn : Nat} {k : Dk} {rs : List Rc} {f : Fz} {kd : Nat} {d : List UInt8} (hr : RcOk (kd, d)) (hc : csts rs + cstB d.length ≤ hfN k.n) : Spec Tryz.prog 80 [.pointer (some ⟨bb, 0, none⟩), .int .i64 (kd : Int), S d] [cl k.bd 51 [.pointer (some ⟨k.bf, 0, none⟩), .slice (some ⟨k.sb, 0, none⟩) k.n k.n, .map (some k.bl)]] [bkA bb k f tn rs] (fun v D' M' => v = .tuple #[.agg (rcF f kd d (bsN k.n tn + csts rs)).toArray, .int .i64 (fzE f)] ∧ D' = [] ∧ M' = [bkA bb k (fzN f) tn (apF f rs (kd, d))]) := by
 refine zv (n := 92) Tryz.func80 ?_
 intro σ D M
 refine T.bkU qP (fun x hx => ?_)
 obtain ⟨h1, h2, h3, h4, h5, h6, h7⟩ := id hx
 have hen := hx.en
 have hsl := hx.sl
 obtain ⟨hr1, hr2, hr3⟩ := id hr
 dsimp only at hr1 hr2 hr3
 have hce := @cst_eq x.sm d kd hr1 hr2
 have hsp := @spS_len x.sm d kd hr1 hr2
 have hnd := numB_3 (n := d.length) jO
 obtain ⟨ha, hb, -⟩ := splB_ok _ (spS x.sm kd d) (Nat.le_refl _) jO
 have hbn := @bsN_le k.n tn jO
 refine O (zC R ze85 (fun b6 => ?_))
 refine V R R (I (ze (zD (O (E R R (zW R R R (E R R (zE (t := 15) R (show _ = Value.bool false from congrArg Value.bool (decide_eq_false jO)) ?_))))))))
 refine zj 15 R R R (E R R (zj 15 R R R (yy R R R (yg R R R (V R R (I (zR R (decide_eq_false jO) ?_)))))))
 refine O (E R R (yL R ye R (yy R R R (V R R (I (zR R (decide_eq_false jO) ?_))))))
 refine O (E R R (yL R ye R (zH R (ev1 R) qD qS (cost_spec (d := d.length) jO) jF ?_)))
 refine E R R (zH R (ev1 R) qD qS (left_spec (e := x.e) jO h6 h3) jF ?_)
 refine yy R R R (V R R (I (zR R (decide_eq_false jO) ?_)))
 refine zq (zS (z8 (O (E R R (zJ R R ?_)))))
 refine zg R fo124_2 R ?_
 refine zf R sc9 R qC ?_
 refine E R R (E R R (zH R (ev3 R R R) qD qS (spell_spec (s := x.sm) (k := kd) (d := d) jO jO jO) jF ?_))
 refine E R R (zr R R R (zr R R R (V R R (V R R (I (ze (ze (y7 (clsL [1, 0, 1, 0, 1, 0, 1, 0, 1, 0, 2, 1]) qk ?_))))))))
 refine z9 0 R R (E R R (z7 (z9 4 R R (E R R (z7 (z9 8 R R (E R R (z7 (yE (i := 1) R R qk qk qk qk R qD qF R ?_)))))))))
 refine z9 2 R R (zg R fo124_0 R ?_)
 refine z7 (zY (i := 3) R R R R qk qk qk qk R qD qF ?_)
 refine zf R sc23 R qC ?_
 refine z7 (yE (i := 5) R R qk qk qk qk R qD qF R ?_)
 refine z9 6 R R (zg R fo124_3 R ?_)
 refine z7 (zY (i := 7) R R R R qk qk qk qk R qD qF ?_)
 refine zf R sc3 R qC ?_
 refine z7 (zi 9 R (zp R (ev1 R) qD qS (split_spec (s := spS x.sm kd d) jO) ?_))
 rintro _ _ _ ⟨sa, sn, sc_, rfl, hsn, rfl, rfl⟩
 refine zm qA qA ?_
 refine yF (rows := (splB (spS x.sm kd d)).map ys) qP ?_
 refine yH R qD qF ?_
 refine zi 10 R (zp R (ev3 R R R) qD qS (dwrite_spec (f := f) (p := x.e) (ts := splB (spS x.sm kd d)) (cur := x.cur) jO h6 hb) ?_)
 rintro _ _ _ ⟨rfl, rfl, rfl⟩
 refine zm qA qA ?_
 refine zh R qD ?_
 refine z9 11 R R (V R R (z7 (zN qk ?_)))
 refine z8 (O (E R R (zZ R R R (I (zA R (fun h55 => ?_) (fun h55 => ?_))))))
 ·try simp only [dq] at h55
  have hff := fzE_t h55
  rw [if_pos hff]
  refine O (yq R bu85 (zQ (out := [Value.int .i64 0, S [], Value.int .i64 0]) R) ?_)
  refine E R R (zz yD R R qL qO qU qW ?_)
  refine V R R (I (zo (zL (T.bkF (cur := x.cur) (pv := x.pv) (e := x.e) (sm := x.sm) (bp := x.bp) (hx) qS ?_))))
  have e1 : rcF f kd d (bsN k.n tn + csts rs) = [.int .i64 0, S [], .int .i64 0] := if_pos hff
  have e2 : apF f rs (kd, d) = rs := if_pos hff
  rw [e1, e2]
  exact yW R yD R qN R ⟨R, R, R⟩ qD qF
 try simp only [dq] at h55
 have hff := fzE_f h55
 rw [if_neg hff]
 refine zq (z8 (O (E R R (E R R (E R R (zJ R R ?_))))))
 refine zg R fo124_3 R ?_
 refine zf R sc3 R qC ?_
 refine yq R bu85 (zF R R R <| zF R R R <| zF R R R <| zQ (out := []) R) ?_
 refine zC R ze85 (fun b11 => ?_)
 refine zz yD R R qL qO qU qW ?_
 refine I (ze (y7 (clsL [1, 0, 1, 0, 1, 0, 1, 0, 1, 0, 1, 0, 2]) qk ?_))
 refine z9 0 R R (E R R (z7 (z9 4 R R (E R R (z7 (z9 8 R R (E R R (z7 (yE (i := 1) R R qk qk qk qk R qD qF R ?_)))))))))
 refine z9 2 R R (zg R fo124_4 R ?_)
 refine z7 (zY (i := 3) R R R R qk qk qk qk R qD qF ?_)
 refine zf R sc122 R qC ?_
 refine z7 (yE (i := 5) R R qk qk qk qk R qD qF R ?_)
 refine z9 6 R R (zg R fo124_3 R ?_)
 refine z7 (zY (i := 7) R R R R qk qk qk qk R qD qF ?_)
 refine zf R sc3 R qC ?_
 refine z7 (yE (i := 9) R R qk qk qk qk R qD qF R ?_)
 refine z9 10 R R (zg R fo124_2 R ?_)
 refine z7 (zY (i := 11) R R R R qk qk qk qk R qD qF ?_)
 refine zf R sc9 R qC ?_
 refine z7 (zi 12 R (xQ (kenc := iK) (venc := S) (l := x.pv) (k := (x.e : Int)) (v := x.sm) Tryz.underlying122 (keyT_int xi) R R R R qP ?_))
 refine zh R qD ?_
 refine zN qk ?_
 refine z8 (ze (y7 (clsL [1, 0, 1, 0, 1, 1, 0, 1, 0, 1, 2]) qk ?_))
 refine z9 0 R R (E R R (z7 (z9 4 R R (E R R (z7 (z9 5 R R (yL R ye R (z7 (yE (i := 1) R R qk qk qk qk R qD qF R ?_)))))))))
 refine z9 2 R R (zg R fo124_3 R ?_)
 refine z7 (zY (i := 3) R R R R qk qk qk qk R qD qF ?_)
 refine zf R sc3 R qC ?_
 refine z7 (zi 6 R (zH R (ev1 R) qD qS (cost_spec (d := d.length) jO) jF ?_))
 refine yH R qD qF ?_
 refine z9 7 R R (zT R R R jO ?_)
 refine zE (t := 84) (u := .int .i64 ((x.e + cstB d.length : Nat) : Int)) R (congrArg (Value.int .i64) jO) ?_
 refine z7 (yE (i := 8) R R qk qk qk qk R qD qF R ?_)
 refine z9 9 R R (zg R fo124_3 R ?_)
 refine z7 (zi 10 R (yj sc3 R R R qU qE ?_))
 refine zh R qD ?_
 refine zN qk ?_
 refine z8 (O (E R R (E R R (zJ R R ?_))))
 refine zg R fo124_2 R ?_
 refine yj sc9 R R R qU qE ?_
 refine I (O (zx R yD R qN ?_))
 refine zz yD R R qL qO qU qW ?_
 refine V R R (I (zo (T.bkF (cur := wrC x.cur x.e (splB (spS x.sm kd d))) (pv := put x.pv (x.e : Int) x.sm) (e := x.e + cstB d.length) (sm := spN x.sm kd d) (bp := x.bp) (hx.app hr jO) qS ?_)))
 have e1 : rcF f kd d (bsN k.n tn + csts rs) = [.int .i64 (kd : Int), S (d), .int .i64 (x.e : Int)] := by rw [← hen]; exact if_neg hff
 have e2 : apF f rs (kd, d) = rs ++ [(kd, d)] := if_neg hff
 rw [e1, e2]
 exact yW R yD R qN R ⟨by rw [fzE_n hff], R, R⟩ qD qF
theorem blook_spec {bb tn e p kd : Nat} {k : Dk} {sm s d : List UInt8} {pv : Value} {cur : List Bk} (h2 : 2 ≤ k.n) (hn : k.n ≤ 60000) (hs : s.length = 32) (hr : RcOk (kd, d)) (hrd : RdAt cur p s kd d) (hst : p + cstB d.length ≤ bsN k.n tn + hfN k.n) (hcl : cur.length = k.n) : Spec Tryz.prog 162 [.pointer (some ⟨bb, 0, none⟩), .int .i64 (p : Int), S s] [cl k.bd 51 [.pointer (some ⟨k.bf, 0, none⟩), .slice (some ⟨k.sb, 0, none⟩) k.n k.n, .map (some k.bl)]] [cl bb 124 [.pointer (some ⟨k.bd, 0, none⟩), .int .i64 (tn : Int), S (sm), .int .i64 (e : Int), pv], dkA k none cur] (fun v D' M' => v = .tuple #[.agg #[.int .i64 (kd : Int), S d, .int .i64 (p : Int)], S (spN s kd d), .int .i64 0] ∧ D' = [] ∧ M' = [cl bb 124 [.pointer (some ⟨k.bd, 0, none⟩), .int .i64 (tn : Int), S (sm), .int .i64 (e : Int), pv], dkA k none cur]) := by
 refine zv (n := 111) Tryz.func162 ?_
 intro σ D M
 obtain ⟨hr1, hr2, hr3⟩ := id hr
 dsimp only at hr1 hr2 hr3
 have hnd := numB_3 (n := d.length) jO
 have hcp := @cstB_pos d.length
 have hbn := @bsN_le k.n tn h2
 obtain ⟨r, hrr, hrl⟩ := lk_parts hr hrd jO
 have hl1 := @rdB_len cur p 1 jO
 have hla := @rdB_len cur p (cstB d.length) jO
 have hld := lk_data hr hrd
 have hsp := @spS_len s d kd hr1 hr2
 have hcl2 := cst_le (n := d.length) jO
 have hce := @cst_eq s d kd hr1 hr2
 refine O (zC R ze85 (fun b6 => ?_))
 refine V R R (V R R (I (O (E R R (E R R (zJ R R ?_))))))
 refine zg R fo124_1 R ?_
 refine zf R sc3 R qC ?_
 refine zH R (ev2 R R) qD qS (from_spec h2 hn) jF ?_
 refine E R R (zH R (ev1 R) qD qS (half_spec h2 hn) jF ?_)
 refine zT R R R jO ?_
 refine zE (t := 28) (u := .int .i64 ((bsN k.n tn + hfN k.n : Nat) : Int)) R (congrArg (Value.int .i64) jO) ?_
 refine V R R (I (ze (O (E R R (E R R (L.geI R R R (I (zR R (decide_eq_false jO) ?_))))))))
 refine zq (z8 (O (E R R (zJ R R ?_))))
 refine zg R fo124_0 R ?_
 refine zf R sc23 R qC ?_
 refine E R R (zp R (ev3 R R R) qD qS (dread_spec (p := p) (m := 1) (cur := cur) jO hn) ?_)
 rintro _ _ _ ⟨rfl, rfl, rfl⟩
 refine zm qA qA ?_
 refine E R R (zr R R R (zr R R R (V R R (V R R (I (ze (O (E R R (zZ R R R (I (zR R (decide_eq_false (fun q => q R)) ?_)))))))))))
 refine zq (z8 (O (E R R (L.sliceS (a := _) (b := _) R ye R ⟨_, (by first | rfl | (congr 2; omega))⟩ R qI qI ?_))))
 refine zE (t := 47) (u := S (numB kd ++ (numB d.length ++ r))) R (congrArg S (hrr)) ?_
 refine zp R (ev1 R) qD qS (bopen_spec (s := numB kd ++ (numB d.length ++ r))) ?_
 rintro _ _ _ ⟨bq, rfl, rfl, rfl⟩
 refine zm qA qA ?_
 refine V R R (I (O (E R R (zp R (ev2 R R) qD qS (bintp_spec (n := kd) (top := 200) (r := numB d.length ++ r) hr2 jD) ?_))))
 rintro _ _ _ ⟨rfl, rfl, rfl⟩
 refine zm qA qA ?_
 refine E R R (zp R (ev2 R R) qD qS (bintp_spec (n := d.length) (top := 4096) (r := r) hr3 jD) ?_)
 rintro _ _ _ ⟨rfl, rfl, rfl⟩
 refine zm qA qA ?_
 refine V R R (V R R (I (ze (O (E R R (zp R (ev1 R) qD qS (berr_spec (b := ⟨r, 0⟩)) ?_))))))
 rintro _ _ _ ⟨rfl, rfl, rfl⟩
 refine zm qA qA ?_
 refine zZ R R R (E R R (zE (t := 56) R (show _ = Value.bool false from congrArg Value.bool (decide_eq_false (fun q => q R))) ?_))
 refine zj 56 R R R (E R R (zj 56 R R R (zW R R R (yg R R R (E R R (zE (t := 60) R (show _ = Value.bool false from congrArg Value.bool (decide_eq_false jO)) ?_))))))
 refine zj 60 R R R (E R R (zj 60 R R R (E R R (zj 60 R R R (zH R (ev1 R) qD qS (cost_spec (d := d.length) jO) jF ?_)))))
 refine zj 60 R R R (zT R R R jO ?_)
 refine zj 60 R R R (E R R (zj 60 R R R (yy R R R (yg R R R (I (zR R (decide_eq_false jO) ?_))))))
 refine zq (z8 (ze (y7 (clsL [1, 0, 1, 0, 1, 1, 0, 2, 1, 1, 1, 1, 1]) qk ?_)))
 refine z9 0 R R (E R R (z7 (z9 4 R R (E R R (z7 (z9 5 R R (E R R (z7 (yE (i := 1) R R qk qk qk qk R qD qF R ?_)))))))))
 refine z9 2 R R (zg R fo124_0 R ?_)
 refine z7 (zY (i := 3) R R R R qk qk qk qk R qD qF ?_)
 refine zf R sc23 R qC ?_
 refine z7 (zi 6 R (zH R (ev1 R) qD qS (cost_spec (d := d.length) jO) jF ?_))
 refine yH R qD qF ?_
 refine zi 7 R (zp R (ev3 R R R) qD qS (dread_spec (p := p) (m := cstB d.length) (cur := cur) jO hn) ?_)
 rintro _ _ _ ⟨rfl, rfl, rfl⟩
 refine zm qA qA ?_
 refine zh R qD ?_
 refine z9 8 R R (E R R (z7 (z9 9 R R (zr R R R (z7 (z9 10 R R (zr R R R (z7 (z9 11 R R (V R R (z7 (z9 12 R R (V R R (z7 (zN qk ?_)))))))))))))))
 refine z8 (ze (O (E R R (zZ R R R (I (zR R (decide_eq_false (fun q => q R)) ?_))))))
 refine zq (z8 (O (E R R (zp R (ev1 R) qD qS (bleft_spec (b := ⟨r, 0⟩)) ?_))))
 rintro _ _ _ ⟨rfl, rfl, rfl⟩
 refine zm qA qA ?_
 refine zE (t := 85) (u := S (r)) R (congrArg S (R)) ?_
 refine yL R ye R (yt R R R jO ?_)
 refine zE (t := 87) (u := .int .i64 ((34 + (numB d.length).length : Nat) : Int)) R (congrArg (Value.int .i64) jO) ?_
 refine V R R (I (O (E R R (E R R (E R R (E R R (zT R R R jO ?_)))))))
 refine zE (t := 92) (u := .int .i64 ((34 + (numB d.length).length + d.length : Nat) : Int)) R (congrArg (Value.int .i64) jO) ?_
 refine L.sliceS (a := _) (b := _) R ye R ⟨_, (by first | rfl | (congr 2; omega))⟩ ⟨_, (by first | rfl | (congr 2; omega))⟩ qI qI ?_
 refine zE (t := 93) (u := S (d)) R (congrArg S (hld)) ?_
 refine V R R (I (O (E R R (E R R (E R R (zH R (ev3 R R R) qD qS (spell_spec (s := s) (k := kd) (d := d) jO jO jO) jF ?_))))))
 refine E R R (zr R R R (zr R R R (V R R (V R R (I (ze (O (E R R (E R R (zH R (ev2 R R) qD qS (shasp_spec) jF ?_))))))))))
 refine x7 R R (I (zR R (by rw [decide_eq_true (List.prefix_iff_eq_take.1 (lk_pre hrd)).symm]; rfl) ?_))
 refine zq (z8 (O (E R R (E R R (E R R (yq R bu85 (zF R R R <| zF R R R <| zF R R R <| zQ (out := []) R) ?_))))))
 refine E R R (zz yD R R qL qO qU qW ?_)
 exact V R R (V R R (I (zo (T.retATT R yD R qN R R ⟨R, R, R⟩ qD qF))))
theorem bget_spec {bb tn kd : Nat} {k : Dk} {d : List UInt8} {r1 r2 : List Rc}  : Spec Tryz.prog 209 [.pointer (some ⟨bb, 0, none⟩), .int .i64 ((bsN k.n tn + csts r1 : Nat) : Int)] [cl k.bd 51 [.pointer (some ⟨k.bf, 0, none⟩), .slice (some ⟨k.sb, 0, none⟩) k.n k.n, .map (some k.bl)]] [bkA bb k none tn (r1 ++ (kd, d) :: r2)] (fun v D' M' => v = .tuple #[.agg #[.int .i64 (kd : Int), S d, .int .i64 ((bsN k.n tn + csts r1 : Nat) : Int)], .int .i64 0] ∧ D' = [] ∧ M' = [bkA bb k none tn (r1 ++ (kd, d) :: r2)]) := by
 refine zv (n := 33) Tryz.func209 ?_
 intro σ D M
 refine T.bkU qP (fun x hx => ?_)
 obtain ⟨h1, h2, h3, h4, h5, h6, h7⟩ := id hx
 obtain ⟨s2, hs2, hrd, hlk, hst⟩ := hx.at
 have hr := h4 (kd, d) (by simp)
 refine O (zC R ze85 (fun b4 => ?_))
 refine V R R (I (O (E R R (zJ R R ?_))))
 refine zg R fo124_4 R ?_
 refine zf R sc122 R qC ?_
 refine E R R (xw (kenc := iK) (venc := S) (l := x.pv) (k := ((bsN k.n tn + csts r1 : Nat) : Int)) (v := s2) R Tryz.underlying122 (keyT_int xi) zv9 R R qM hlk ?_)
 refine E R R (zr R R R (zr R R R (V R R (V R R (I (ze (O (E R R (x7 R R (I (zR R R ?_)))))))))))
 refine zq (z8 (O (E R R (E R R (E R R (zp R (ev3 R R R) qD qS (blook_spec (p := bsN k.n tn + csts r1) (s := s2) (kd := kd) (d := d) (cur := x.cur) jO h6 hs2 hr hrd hst h1) ?_))))))
 rintro _ _ _ ⟨rfl, rfl, rfl⟩
 refine zm qA qA ?_
 refine E R R (zr R R R (zr R R R (zr R R R (zC R ze85 (fun b8 => ?_)))))
 refine zz yD R R qL qO qU qW ?_
 refine V R R (V R R (I (O (zx R yD R qN ?_))))
 refine E R R (zz yD R R qL qO qU qW ?_)
 refine V R R (I (zo (T.bkF (cur := x.cur) (pv := x.pv) (e := x.e) (sm := x.sm) (bp := x.bp) (hx) qS ?_)))
 exact yW R yD R qN R ⟨R, R, R⟩ qD qF
end Cv
