/-
  The walks: names.
-/
import Derived.Test.YtncgoodlhmpfcaaGreatIJ11
import Derived.Test.YtncgoodlhmpfcaaGreatPP11
set_option linter.all false
set_option maxHeartbeats 400000
set_option maxRecDepth 10000
namespace Cv
open Go Go.Proofs
/-! ## names in a row, each once -/
theorem tk_tail {α : Type} {l r : List α} {i : Nat} (h : i ≤ l.length) : (l.take i ++ r).take i = l.take i := by
  rw [List.take_append_of_le_length (by simp; omega), List.take_take, Nat.min_self]
def cfI (x y : ID32) : Int := cmpB x.1 y.1
theorem cfI_swo : SWO cfI where
  asym x y h k := by
    unfold cfI at h k
    have := cmpB_neg x.1 y.1
    omega
  ntrans x y z h k l := by
    unfold cfI at h k l
    have n1 := cmpB_neg y.1 x.1
    have n2 := cmpB_neg z.1 y.1
    have n3 := cmpB_neg x.1 z.1
    rcases Int.lt_or_le (cmpB y.1 x.1) 0 with a | a
    · exact k (cmpB_trans a l)
    · have e1 : cmpB y.1 x.1 = 0 := by omega
      rw [cmpB_eq e1] at k
      exact k l
theorem cfI_irr (x : ID32) : ¬ cfI x x < 0 := by unfold cfI; rw [cmpB_self]; omega
theorem cfI_zero {x y : ID32} (h1 : ¬ cfI x y < 0) (h2 : ¬ cfI y x < 0) : x = y := by
  unfold cfI at h1 h2
  have := cmpB_neg x.1 y.1
  exact Subtype.ext (cmpB_eq (by omega))
def ddS (acc : List ID32) (x : ID32) : List ID32 := if acc.getLast? = some x then acc else acc ++ [x]
def ddp (l : List ID32) : List ID32 := l.foldl ddS []
theorem ddp_s {xs : List ID32} {j : Nat} {x : ID32} (h : xs[j]? = some x) : ddp (xs.take (j + 1)) = ddS (ddp (xs.take j)) x := by
  unfold ddp; rw [List.take_add_one, h, List.foldl_append]; rfl
theorem ddp_last {xs : List ID32} {j : Nat} {x : ID32} (h : xs[j]? = some x) : (ddp (xs.take (j + 1))).getLast? = some x := by
  rw [ddp_s h]; unfold ddS
  split
  · assumption
  · simp
theorem ddp_same {xs : List ID32} {j : Nat} {x : ID32} (hj : 1 ≤ j) (h : xs[j]? = some x) (k : xs[j - 1]? = some x) : ddp (xs.take (j + 1)) = ddp (xs.take j) := by
  have := ddp_last k
  rw [Nat.sub_add_cancel hj] at this
  rw [ddp_s h]; unfold ddS; rw [if_pos this]
theorem ddp_diff {xs : List ID32} {j : Nat} {x y : ID32} (hj : 1 ≤ j) (h : xs[j]? = some x) (k : xs[j - 1]? = some y) (e : x ≠ y) : ddp (xs.take (j + 1)) = ddp (xs.take j) ++ [x] := by
  have := ddp_last k
  rw [Nat.sub_add_cancel hj] at this
  rw [ddp_s h]; unfold ddS; rw [if_neg (by rw [this]; intro q; exact e (Option.some.inj q).symm)]
theorem ddp_short {xs : List ID32} (h : xs.length < 2) : ddp xs = xs := by
  match xs, h with
  | [], _ => rfl
  | [x], _ => rfl
  | _ :: _ :: _, h => simp only [List.length_cons] at h; omega
theorem ddp_one {xs : List ID32} (h : 1 ≤ xs.length) : ddp (xs.take 1) = xs.take 1 := ddp_short (by rw [List.length_take]; omega)
theorem ddp_next {xs : List ID32} {k : Nat} {x y : ID32} (hk : 1 ≤ k) (h : xs[k]? = some x) (h1 : xs[k - 1]? = some y) (e : x ≠ y) (hd : ddp (xs.take k) = xs.take k) : ddp (xs.take (k + 1)) = xs.take (k + 1) := by
  rw [ddp_diff hk h h1 e, hd, List.take_add_one, h]; rfl
structure CmpI (xs ys : List ID32) (m j : Nat) : Prop where
  len : ys.length = xs.length
  le : 1 ≤ m ∧ m + 1 ≤ j ∧ j ≤ xs.length
  pre : ys.take m = ddp (xs.take j)
  suf : ∀ i, j ≤ i + 1 → ys[i]? = xs[i]?
theorem CmpI.start {xs : List ID32} {k : Nat} {x : ID32} (hk : 1 ≤ k) (h : xs[k]? = some x) (h1 : xs[k - 1]? = some x) (hd : ddp (xs.take k) = xs.take k) : CmpI xs xs k (k + 1) :=
  ⟨rfl, ⟨hk, Nat.le_refl _, (List.getElem?_eq_some_iff.1 h).1⟩, by rw [ddp_same hk h h1, hd], fun _ _ => rfl⟩
theorem CmpI.same {xs ys : List ID32} {m j : Nat} (h : CmpI xs ys m j) {x : ID32} (hj : ys[j]? = some x) (hj1 : ys[j - 1]? = some x) : CmpI xs ys m (j + 1) := by
  obtain ⟨h1, ⟨h2, h3, h4⟩, h5, h6⟩ := h
  rw [h6 j (by omega)] at hj
  rw [h6 (j - 1) (by omega)] at hj1
  exact ⟨h1, ⟨h2, by omega, (List.getElem?_eq_some_iff.1 hj).1⟩, by rw [ddp_same (by omega) hj hj1, h5], fun i hi => h6 i (by omega)⟩
theorem CmpI.diff {xs ys : List ID32} {m j : Nat} (h : CmpI xs ys m j) {x y : ID32} (hj : ys[j]? = some x) (hj1 : ys[j - 1]? = some y) (e : x ≠ y) : CmpI xs (ys.set m x) (m + 1) (j + 1) := by
  obtain ⟨h1, ⟨h2, h3, h4⟩, h5, h6⟩ := h
  rw [h6 j (by omega)] at hj
  rw [h6 (j - 1) (by omega)] at hj1
  refine ⟨by rw [List.length_set, h1], ⟨by omega, by omega, (List.getElem?_eq_some_iff.1 hj).1⟩, ?_, fun i hi => by rw [List.getElem?_set_ne (by omega)]; exact h6 i (by omega)⟩
  rw [ddp_diff (by omega) hj hj1 e, ← h5, List.take_add_one, List.take_set_of_le (Nat.le_refl _), List.getElem?_set_self (by omega)]; rfl
theorem CmpI.fin {xs ys : List ID32} {m : Nat} (h : CmpI xs ys m xs.length) : ys.take m = ddp xs := by
  rw [h.pre, List.take_length]
structure NamesF (xs l : List ID32) : Prop where
  asc : l.Pairwise (fun x y => x.1 < y.1)
  mem : ∀ z, z ∈ l ↔ z ∈ xs
theorem ddp_asc {xs : List ID32} (h : SrtP cfI xs 0 xs.length) : ∀ j, j ≤ xs.length → NamesF (xs.take j) (ddp (xs.take j))
  | 0, _ => ⟨List.Pairwise.nil, fun z => Iff.rfl⟩
  | j + 1, hj => by
    obtain ⟨h1, h2⟩ := ddp_asc h j (by omega)
    have hg : xs[j]? = some (gd xs j) := y9 (by omega)
    by_cases hl : (ddp (xs.take j)).getLast? = some (gd xs j)
    · have e : ddp (xs.take (j + 1)) = ddp (xs.take j) := by rw [ddp_s hg]; unfold ddS; rw [if_pos hl]
      rw [e]
      refine ⟨h1, fun z => ?_⟩
      rw [h2, List.take_add_one, hg, List.mem_append]
      constructor
      · exact Or.inl
      · rintro (a | a)
        · exact a
        · have : z = gd xs j := by simpa using a
          rw [this]; exact (h2 _).1 (List.mem_of_getLast? hl)
    · have e : ddp (xs.take (j + 1)) = ddp (xs.take j) ++ [gd xs j] := by rw [ddp_s hg]; unfold ddS; rw [if_neg hl]
      rw [e]
      refine ⟨?_, fun z => ?_⟩
      · rw [List.pairwise_append]
        refine ⟨h1, List.pairwise_singleton _ _, fun z hz x hx => ?_⟩
        have hx : x = gd xs j := by simpa using hx
        subst hx
        obtain ⟨p, hp, hpe⟩ := List.mem_iff_getElem.1 ((h2 z).1 hz)
        have hpj : p < j := by rw [List.length_take] at hp; omega
        have hz' : z = gd xs p := by
          have hq : xs[p]? = some (gd xs p) := y9 (by omega)
          rw [List.getElem_take] at hpe
          rw [List.getElem?_eq_getElem (by omega)] at hq
          rw [← hpe]; exact Option.some.inj hq
        have hn := h p j (Nat.zero_le _) hpj (by omega)
        unfold NL at hn
        rw [← hz'] at hn
        refine cmpB_lt.1 (Decidable.byContradiction fun hc => hl ?_)
        have hze : z = gd xs j := cfI_zero hc hn
        have hk : xs[j - 1]? = some (gd xs (j - 1)) := y9 (by omega)
        have hk2 := ddp_last hk
        rw [Nat.sub_add_cancel (by omega)] at hk2
        rw [hk2]
        have a1 := h (j - 1) j (Nat.zero_le _) (by omega) (by omega)
        unfold NL at a1
        have a2 : ¬ cfI (gd xs (j - 1)) (gd xs j) < 0 := by
          rw [← hze, hz']
          rcases Nat.lt_or_ge p (j - 1) with q | q
          · exact h p (j - 1) (Nat.zero_le _) q (by omega)
          · have : p = j - 1 := by omega
            subst this; exact cfI_irr _
        rw [cfI_zero a2 a1]
      · rw [List.mem_append, h2, List.take_add_one, hg, List.mem_append]; rfl
theorem ddp_names {xs ys : List ID32} (hp : ys.Perm xs) (h : SrtP cfI ys 0 ys.length) : NamesF xs (ddp ys) := by
  have := ddp_asc h ys.length (Nat.le_refl _)
  rw [List.take_length] at this
  exact ⟨this.asc, fun z => (this.mem z).trans hp.mem_iff⟩

theorem bcx : IsX Tryz.prog 151 Extern.BytealgCompare.compare := IsX.of Tryz.func151 qk qk qk qk
theorem bcmp_spec {a b : Option Addr} {la ca lb cb : Nat} {p q : List UInt8}  : Spec Tryz.prog 92 [.slice a la ca, .slice b lb cb] [rsl 1 a la ca (p.map yr), rsl 1 b lb cb (q.map yr)] [] (fun v D' M' => v = .int .i64 (cmpB p q) ∧ D' = [] ∧ M' = []) := by
 refine zv (n := 8) Tryz.func92 ?_
 intro σ D M
 refine O (V R R (I (O (E R R (E R R (L.cmpSl bcx R (ev2 R R) qM qM ?_))))))
 exact V R R (I (zo (zy R R ⟨R, R, R⟩ qD qF)))
theorem ocmp_spec {x y : ID32}  : Spec Tryz.prog 49 [.agg (iC x).toArray, .agg (iC y).toArray] [] [] (fun v D' M' => v = .int .i64 (cfI x y) ∧ D' = [] ∧ M' = []) := by
 refine zv (n := 8) Tryz.func49 ?_
 intro σ D M
 have hx := x.2
 have hy := y.2
 have hx3 := yw x
 have hy3 := yw y
 refine O (y6 R R R (fun b2 => ?_))
 refine y6 R R R (fun b3 => ?_)
 refine V R R (zu (T.toOwn (b := b2) (len := 32) qP (rows := x.1.map yr) (sz := 1) (yr_flat x.1) (by simp [hx]) (by simp) ?_))
 refine yQ qP ?_
 refine T.toOwn (b := b3) (len := 32) qP (rows := y.1.map yr) (sz := 1) (yr_flat y.1) (by simp [hy]) (by simp) ?_
 refine yQ qP ?_
 refine z8 (ze (xg qk qk (xB R yf sz5 R xb xb qI qI ?_)))
 refine zE (t := 5) (u := .slice (some ⟨b2, 0, none⟩) 32 32) R (by first | rfl | simp [cutA, Addr.add]) ?_
 refine xB R yf sz5 R xb xb qI qI ?_
 refine zE (t := 6) (u := .slice (some ⟨b3, 0, none⟩) 32 32) R (by first | rfl | simp [cutA, Addr.add]) ?_
 refine zH R (ev2 R R) qD qS (bcmp_spec (p := x.1) (q := y.1)) jF ?_
 exact V R R (yY (z8 (zo (zy R R ⟨R, R, R⟩ qD qF))))
theorem clone_spec {a : Option Addr} {len cap : Nat} {xs : List ID32} (hb : len ≤ 1000000) : Spec Tryz.prog 58 [.slice a len cap] [rsl 32 a len cap (xs.map iC)] [] (fun v D' M' => ∃ (a' : Option Addr) (len' cap' : Nat), v = .slice a' len' cap' ∧ (len' = len) ∧ D' = [] ∧ M' = [own 32 38 a' len' cap' ((xs).map iC)]) := by
 refine zv (n := 8) Tryz.func58 ?_
 intro σ D M
 refine yU qM (fun hl hc => ?_)
 rw [List.length_map] at hl
 refine O (V R R (I (ze (O (E R R (L.eqlSl R yh R R ?_))))))
 refine I (zA R (fun h4 => ?_) (fun h4 => ?_))
 ·try simp only [dq] at h4
  obtain rfl : a = none := by simpa using h4
  refine T.rslNil qM (fun h0 => ?_)
  obtain rfl : xs = [] := by cases xs with
   | nil => rfl
   | cons x l => simp at h0
  obtain rfl : len = 0 := by simpa using hl.symm
  refine yM (sz := 32) (e := 38) ?_
  refine y3 qP (show own 32 38 none 0 0 [] = own 32 38 none 0 0 ((([] : List ID32)).map iC) from R) ?_
  exact O (V R R (I (zo (zL (zy R R ⟨_, _, _, R, R, R, R⟩ qD qF)))))
 try simp only [dq] at h4
 refine zq (z8 (O (yl R bs32 jD (zQ (out := []) R) (fun b5 => ?_))))
 refine yR (len := 0) qP (rows := []) (sz := 32) (by rfl) R (by simp) ?_
 refine E R R (xC R yh yh el38 R R qP (rd_D qM) one_ids qI qI (fun a7 c7 => ?_))
 refine V R R (zu ?_)
 simp only [Nat.zero_add, List.nil_append]
 exact z8 (zo (zy R R ⟨_, _, _, R, by simp, R, R⟩ qD qF))
theorem compact_spec {a : Option Addr} {len cap : Nat} {xs : List ID32} (hb : len ≤ 1000000) : Spec Tryz.prog 118 [.slice a len cap] [] [own 32 38 a len cap ((xs).map iC)] (fun v D' M' => ∃ (a' : Option Addr) (len' cap' : Nat), v = .slice a' len' cap' ∧ ((ddp xs).length = len') ∧ D' = [] ∧ M' = [own 32 38 a' len' cap' ((ddp xs).map iC)]) := by
 refine zv (n := 61) Tryz.func118 ?_
 intro σ D M
 refine xo qM (fun hl hc => ?_)
 rw [List.length_map] at hl
 refine O (V R R (I (ze (O (E R R (yb R yh R (zW R R R (I (zA R (fun h8 => ?_) (fun h8 => ?_))))))))))
 ·try simp only [dq] at h8
  have hds := ddp_short (xs := xs) jO
  refine yp a ((ddp xs).map iC) qP (by rw [hds]) ?_
  exact O (E R R (V R R (I (zo (zL (zy R R ⟨_, _, _, R, by rw [hds]; exact hl, R, R⟩ qD qF))))))
 try simp only [dq] at h8
 refine T.ownNe qM jO (fun b o ha => ?_)
 subst ha
 refine zq (z8 (ze (O (V R R (I (zD (y8 (fun K' D' M' μ => ∃ (k : Nat), ((1 ≤ k ∧ k ≤ len) ∧ ddp (xs.take k) = xs.take k) ∧ K' = [(3, .int .i64 (k : Int))] ∧ D' = [] ∧ M' = [own 32 38 (some ⟨b, o, none⟩) len cap ((xs).map iC)] ∧ μ = len - k) (.c 0 R <| zd _) (⟨1, ⟨by omega, ddp_one jO⟩, R, R, R, R⟩) (.c 3 R <| zd _) qD qS ?_)))))))
 rintro K1 D1 M1 m1 ⟨k, ⟨hk, hd⟩, rfl, rfl, rfl, rfl⟩
 refine zM qA qA qA ?_
 refine ze (O (E R R (E R R (yb R yh R (zW R R R (I (zA R (fun h13 => ?_) (fun h13 => ?_))))))))
 ·try simp only [dq] at h13
  refine zq (z8 (ze (zD (ze ?_))))
  have hg0 : xs[k]? = some (gd xs (k)) := y9 jO
  have hw0 := yw (gd xs (k))
  have hv0 := (gd xs (k)).2
  have hg1 : xs[k - 1]? = some (gd xs (k - 1)) := y9 jO
  have hw1 := yw (gd xs (k - 1))
  have hv1 := (gd xs (k - 1)).2
  refine xg qk qk (E R R (E R R (yN (i := k) R yh sz38 R R jR qI ?_)))
  refine zx R zI R (xJ qM (yJ hg0) hw0) ?_
  refine E R R (E R R (yt R R R jO ?_))
  refine yN (i := k - 1) R yh sz38 R R jR qI ?_
  refine zx R zI R (xJ qM (yJ hg1) hw1) ?_
  refine L.eqlArrI qk R yf zX sc5 R R qL qL ?_
  refine yY (z8 (zA R (fun h25 => ?_) (fun h25 => ?_)))
  ·try simp only [dq] at h25
   have h25 := Subtype.ext h25
   have hg0b := hg0
   rw [h25] at hg0b
   refine O (E R R (E R R (L.sliceSl R yh sz38 R (Bd.at (x := k) R jR) xb qI qI ?_)))
   refine zE (t := 28) (u := .slice (some ⟨b, o + k * 32, none⟩) (len - k) (cap - k)) R (by unfold cutA; rw [if_neg jO]; simp [Addr.add]; omega) ?_
   refine V R R (I (ze (O (V R R (I (zD (y8 (fun K' D' M' μ => ∃ (m d j : Nat) (ys : List ID32), (CmpI xs ys m j ∧ j = k + d ∧ 1 ≤ d) ∧ K' = [(3, .int .i64 (m : Int)), (5, .int .i64 (d : Int)), (4, .slice (some ⟨b, o + k * 32, none⟩) (len - k) (cap - k))] ∧ D' = [] ∧ M' = [own 32 38 (some ⟨b, o, none⟩) len cap ((ys).map iC)] ∧ μ = len - j) (.c 0 R <| .c 4 R <| zd _) (⟨k, 1, k + 1, xs, ⟨CmpI.start hk.1 hg0b hg1 hd, R, Nat.le_refl _⟩, R, R, R, R⟩) (.c 3 R <| .c 5 R <| .c 4 R <| zd _) qD qS ?_)))))))
   rintro K1 D1 M1 m1 ⟨m, d, j, ys, ⟨hI, hkj, hd1⟩, rfl, rfl, rfl, rfl⟩
   refine zM qA qA qA ?_
   have hyl := hI.len
   have hle := hI.le
   refine ze (O (E R R (E R R (yb R yh R (zW R R R (I (zA R (fun h32 => ?_) (fun h32 => ?_))))))))
   ·try simp only [dq] at h32
    refine zq (z8 (ze (zD (ze ?_))))
    have hg0 : ys[j]? = some (gd ys (j)) := y9 jO
    have hw0 := yw (gd ys (j))
    have hv0 := (gd ys (j)).2
    have hg1 : ys[j - 1]? = some (gd ys (j - 1)) := y9 jO
    have hw1 := yw (gd ys (j - 1))
    have hv1 := (gd ys (j - 1)).2
    refine xg qk qk (E R R (E R R (yN (i := d) R yh sz38 R R jR qI ?_)))
    refine zE (t := 37) (u := .pointer (some ⟨b, o + (j) * 32, none⟩)) R (congrArg (fun q => Value.pointer (some ⟨b, q, none⟩)) jO) ?_
    refine zx R zI R (xJ qM (yJ hg0) hw0) ?_
    refine E R R (E R R (yt R R R jO ?_))
    refine yN (i := d - 1) R yh sz38 R R jR qI ?_
    refine zE (t := 42) (u := .pointer (some ⟨b, o + (j - 1) * 32, none⟩)) R (congrArg (fun q => Value.pointer (some ⟨b, q, none⟩)) jO) ?_
    refine zx R zI R (xJ qM (yJ hg1) hw1) ?_
    refine L.neqArrI qk R yf zX sc5 R R qL qL ?_
    refine yY (z8 (zA R (fun h44 => ?_) (fun h44 => ?_)))
    ·try simp only [dq] at h44
     have h44 : gd ys j ≠ gd ys (j - 1) := fun e => h44 (by rw [e])
     refine ze ?_
     have hg0 : ys[j]? = some (gd ys (j)) := y9 jO
     have hw0 := yw (gd ys (j))
     have hv0 := (gd ys (j)).2
     refine zt (E R R (E R R (E R R (E R R (yN (i := d) R yh sz38 R R jR qI ?_)))))
     refine zE (t := 49) (u := .pointer (some ⟨b, o + (j) * 32, none⟩)) R (congrArg (fun q => Value.pointer (some ⟨b, q, none⟩)) jO) ?_
     refine zx R zI R (xJ qM (yJ hg0) hw0) ?_
     refine yN (i := m) R yh sz38 R R jR qI ?_
     refine xK (m) zI R jR R qL qO qP qI ?_
     refine I (zt (E R R (zT R R R jO ?_)))
     refine V R R (zu (zS (z8 (zt (E R R (zT R R R jO ?_))))))
     refine V R R (I (yp _ ((ys.set m (gd ys j)).map iC) qP (by rw [List.map_set]) ?_))
     exact zV ⟨m + 1, d + 1, j + 1, ys.set m (gd ys j), ⟨hI.diff hg0 hg1 h44, by omega, by omega⟩, R, R, R, R⟩ qI (.c 3 R <| .c 5 R <| .c 4 R <| zd _) (.c 0 R <| .c 4 R <| zd _) qD qD qF
    try simp only [dq] at h44
    have h44 : gd ys j = gd ys (j - 1) := Subtype.ext (by simpa using h44)
    have hg0b := hg0
    rw [h44] at hg0b
    refine zq (zS (z8 (zt (E R R (zT R R R jO ?_)))))
    exact V R R (I (zV ⟨m, d + 1, j + 1, ys, ⟨hI.same hg0b hg1, by omega, by omega⟩, R, R, R, R⟩ qI (.c 3 R <| .c 5 R <| .c 4 R <| zd _) (.c 0 R <| .c 4 R <| zd _) qD qD qF))
   try simp only [dq] at h32
   obtain hjl : j = xs.length := by omega
   rw [hjl] at hI
   subst hl
   have hfe := hI.fin
   refine y4 (zG (zG (y5 (z8 (O (E R R (E R R (L.sliceSl R yh sz38 R (Bd.at (x := m) R jR) xb qI qI ?_))))))))
   refine L.clearO (i := m) (sz := 32) yh zv38 R R qO R qP qI qI ?_
   refine I (O (E R R (E R R (L.sliceTo R yh sz38 R (Bd.at (x := m) R jR) qI ?_))))
   refine V R R (zu (T.ownTo (h := m) qP jO ?_))
   refine yp _ ((ddp xs).map iC) qP (by rw [tk_tail (by simp; omega), ← List.map_take, hfe]) ?_
   exact z8 (zo (yv (zL (zL (yv (zL (zy R R ⟨_, _, _, R, by rw [← hfe, List.length_take]; omega, R, R⟩ qD qF)))))))
  try simp only [dq] at h25
  have h25 : gd xs k ≠ gd xs (k - 1) := fun e => h25 (by rw [e])
  refine zq (zS (z8 (zt (E R R (zT R R R jO ?_)))))
  exact V R R (I (zV ⟨k + 1, ⟨by omega, ddp_next hk.1 hg0 hg1 h25 hd⟩, R, R, R, R⟩ qI (.c 3 R <| zd _) (.c 0 R <| zd _) qD qD qF))
 try simp only [dq] at h13
 obtain rfl : k = len := by omega
 rw [List.take_of_length_le jO] at hd
 refine yp _ ((ddp xs).map iC) qP (by rw [hd]) ?_
 exact y4 (zG (zG (y5 (z8 (O (E R R (V R R (I (zo (zy R R ⟨_, _, _, R, by rw [hd]; exact hl, R, R⟩ qD qF))))))))))
theorem sorted_spec {a : Option Addr} {len cap : Nat} {xs : List ID32} (hb : len ≤ 12) : Spec Tryz.prog 62 [.slice a len cap] [rsl 32 a len cap (xs.map iC)] [] (fun v D' M' => ∃ (a' : Option Addr) (len' cap' : Nat) (l : List ID32), v = .slice a' len' cap' ∧ (NamesF xs l) ∧ (l.length = len') ∧ D' = [] ∧ M' = [own 32 38 a' len' cap' ((l).map iC)]) := by
 refine zv (n := 9) Tryz.func62 ?_
 intro σ D M
 refine yU qM (fun hl hc => ?_)
 rw [List.length_map] at hl
 refine O (V R R (I (O (E R R (zp R (ev1 R) qD qS (clone_spec (xs := xs) jO) ?_)))))
 rintro _ _ _ ⟨ca, cl, cc, rfl, hcl, rfl, rfl⟩
 refine zm qA qA ?_
 subst hcl
 refine V R R (I (O (E R R (zp R (ev2 R R) qD qS (sortw_spec (cf := cfI) (xs := xs) cfI_swo cfI_irr (fun x y => ocmp_spec) hb) ?_))))
 rintro _ _ _ ⟨ys, rfl, hp, hs, rfl, rfl⟩
 refine zm qA qA ?_
 refine I (O (E R R (zp R (ev1 R) qD qS (compact_spec (xs := ys) jO) ?_)))
 rintro _ _ _ ⟨da, dn, dc, rfl, hdn, rfl, rfl⟩
 refine zm qA qA ?_
 exact V R R (I (zo (zy R R ⟨_, _, _, ddp ys, R, ddp_names hp (by rw [hp.length_eq, hl]; exact hs), hdn, R, R⟩ qD qF)))
end Cv
set_option maxRecDepth 10000
namespace Cv
open Go Go.Proofs
/-! ## infos: the plain model -/
@[reducible] def inC (p : Pt) (a : Option Addr) (n c : Nat) : List Value := p.1.1.map Y ++ [.int .i64 p.2, .slice a n c]
theorem inC_len (p : Pt) (a : Option Addr) (n c : Nat) : (inC p a n c).length = 34 := by simp [p.1.2]
def idsI (n : Nat) (l : List ID32) (i : Nat) : List UInt8 := numB n ++ (l.take i).flatMap (·.1)
def idsB (l : List ID32) : List UInt8 := idsI l.length l l.length
theorem idsI_s {n : Nat} {l : List ID32} {i : Nat} {x : ID32} (h : l[i]? = some x) : idsI n l (i + 1) = idsI n l i ++ x.1 := by
  unfold idsI
  rw [List.take_add_one, h, List.flatMap_append]
  simp
theorem ids_flat_len (l : List ID32) : (l.flatMap (·.1)).length = 32 * l.length := by
  induction l with
  | nil => rfl
  | cons x l ih => rw [List.flatMap_cons, List.length_append, ih, x.2, List.length_cons]; omega
theorem idsI_len {n : Nat} {l : List ID32} {i : Nat} (hn : n ≤ 1000000) : (idsI n l i).length ≤ 9 + 32 * i := by
  have h1 := numB_len (n := n) (by omega)
  have h2 : (l.take i).length ≤ i := by rw [List.length_take]; omega
  unfold idsI; rw [List.length_append, ids_flat_len]; omega
theorem idsB_len {l : List ID32} (hl : l.length ≤ 1000000) : (idsB l).length ≤ 9 + 32 * l.length := idsI_len hl
def inT (p : Pt) (l : List ID32) : List UInt8 := p.1.1 ++ numB p.2.toNat ++ idsB l
theorem inT_len {p : Pt} {l : List ID32} (hp : p.2 ≤ 4611686018427387904) (hl : l.length ≤ 1000000) : (inT p l).length ≤ 50 + 32 * l.length := by
  have h1 := numB_len (n := p.2.toNat) (by omega)
  have h2 := idsI_len (n := l.length) (l := l) (i := l.length) hl
  have h3 := p.1.2
  unfold inT; rw [List.length_append, List.length_append]; unfold idsB; omega
def inN (p : Pt) (l : List ID32) : ID32 := oI 3 (inT p l)
def rsR (l : List ID32) (i : Nat) : Prop := ∀ j, j + 1 < i → ¬ 0 ≤ cfI (gd l j) (gd l (j + 1))
instance (l : List ID32) (i : Nat) : Decidable (rsR l i) := decidable_of_iff (∀ j, j < i - 1 → ¬ 0 ≤ cfI (gd l j) (gd l (j + 1))) ⟨fun h j hj => h j (by omega), fun h j hj => h j (by omega)⟩
def chkI (p : Pt) (l : List ID32) : Int := if p.2 < 1 then 2 else if 32768 < p.2 ∨ 8 < l.length then 5 else if rsR l l.length then 0 else 2
theorem rsR_s {l : List ID32} {i : Nat} (hi : 1 ≤ i) (h : rsR l i) (hc : ¬ 0 ≤ cfI (gd l (i - 1)) (gd l i)) : rsR l (i + 1) := fun j hj => by
  rcases Nat.lt_or_ge (j + 1) i with a | a
  · exact h j a
  · have : j = i - 1 := by omega
    subst this
    rw [Nat.sub_add_cancel hi]; exact hc
theorem chk_2 {p : Pt} {l : List ID32} (h : p.2 < 1) : chkI p l = 2 := by unfold chkI; rw [if_pos h]
theorem chk_5 {p : Pt} {l : List ID32} (h : ¬ p.2 < 1) (k : 32768 < p.2 ∨ 8 < l.length) : chkI p l = 5 := by unfold chkI; rw [if_neg h, if_pos k]
theorem chk_0 {p : Pt} {l : List ID32} (h : ¬ p.2 < 1) (k : ¬ (32768 < p.2 ∨ 8 < l.length)) (r : rsR l l.length) : chkI p l = 0 := by unfold chkI; rw [if_neg h, if_neg k, if_pos r]
theorem chk_r {p : Pt} {l : List ID32} {i : Nat} (h : ¬ p.2 < 1) (k : ¬ (32768 < p.2 ∨ 8 < l.length)) (hi : 1 ≤ i ∧ i < l.length) (r : 0 ≤ cfI (gd l (i - 1)) (gd l i)) : chkI p l = 2 := by
  unfold chkI; rw [if_neg h, if_neg k, if_neg fun q => q (i - 1) (by omega) (by rw [Nat.sub_add_cancel hi.1]; exact r)]

theorem bids_spec {a : Option Addr} {n c : Nat} {l : List ID32} (hn : n ≤ 1000000) : Spec Tryz.prog 75 [.slice a n c] [rsl 32 a n c (l.map iC)] [] (fun v D' M' => v = S (idsB l) ∧ D' = [] ∧ M' = []) := by
 refine zv (n := 22) Tryz.func75 ?_
 intro σ D M
 refine yU (rows := l.map iC) qM (fun hpl hpc => ?_)
 rw [List.length_map] at hpl
 
 refine O (V R R (I (O (E R R (yb R yh R (yl R bs221 jD (zF R R R <| zQ (out := []) R) (fun b8 => ?_)))))))
 refine yR (len := 1) qP (rows := ([(n : Int)] : List Int).map e3) (sz := 1) (by rfl) R (by simp) ?_
 refine yF qP ?_
 refine zp R (ev1 R) qD qS (bnums_spec (xs := [(n : Int)]) jD (by simp; omega)) ?_
 rintro _ _ _ ⟨rfl, rfl, rfl⟩
 refine zm qA qA ?_
 refine zE (t := 9) (u := S (idsI n l 0)) R (congrArg S (by simp [idsI])) ?_
 refine V R R (I (ze (O (E R R (yb R yh R (E R R (I (zD (y8 (fun K' D' M' μ => ∃ (i : Nat), (i ≤ n) ∧ K' = [(12, .int .i64 (i : Int)), (3, S (idsI n l i))] ∧ D' = [] ∧ M' = [] ∧ μ = n - i) (.c 10 R <| .c 11 R <| zd _) (⟨0, Nat.zero_le _, R, R, R, R⟩) (.c 12 R <| .c 3 R <| zd _) qD qS ?_)))))))))
 rintro K1 D1 M1 m1 ⟨i, hi, rfl, rfl, rfl, rfl⟩
 refine zM qA qA qA ?_
 refine O (zW R R R (I (ze (zA R (fun h13 => ?_) (fun h13 => ?_)))))
 ·try simp only [dq] at h13
  refine zq (z8 (ze (zD (ze ?_))))
  have hgi : l[i]? = some (gd l i) := y9 jO
  obtain ⟨x, hx_⟩ : ∃ x, x = gd l i := ⟨_, rfl⟩
  rw [← hx_] at hgi
  have hgr : (l.map iC)[i]? = some (iC x) := yJ hgi
  have hx := x.2
  have hx3 := yw x
  have hil := idsI_len (n := n) (l := l) (i := i) hn
  refine zt (yP (i := i) R yh sz38 R R qM jR qG (fun b14 o14 => ?_))
  refine zx R zI R (xl qM (hx3)) ?_
  refine zC R ze38 (fun b5 => ?_)
  refine zz zI R R qL qO qU qW ?_
  refine zu (T.toOwn (b := b5) (len := 32) qP (rows := x.1.map yr) (sz := 1) (yr_flat x.1) (by simp [hx]) (by simp) ?_)
  refine yQ qP ?_
  refine z8 (zt (E R R (xB R yf sz5 R xb xb qI qI ?_)))
  refine zE (t := 17) (u := .slice (some ⟨b5, 0, none⟩) 32 32) R (by first | rfl | simp [cutA, Addr.add]) ?_
  refine xL R yz zX ye R qM ?_
  refine L.addS R R R qI ?_
  refine zE (t := 19) (u := S (idsI n l (i + 1))) R (congrArg S (by rw [idsI_s hgi])) ?_
  refine V R R (zu (zS (z8 (zt (zT R R R jO ?_)))))
  exact E R R (I (zV ⟨i + 1, jO, R, R, R, R⟩ qI (.c 12 R <| .c 3 R <| zd _) (.c 10 R <| .c 11 R <| zd _) qD qD qF))
 try simp only [dq] at h13
 obtain rfl : i = n := by omega
 exact y4 (zG (zG (y5 (z8 (O (E R R (V R R (I (zo (zy R R ⟨by unfold idsB; rw [hpl], R, R⟩ qD qF))))))))))
theorem itext_spec {a : Option Addr} {n c : Nat} {l : List ID32} {p : Pt} (hn : n ≤ 1000000) (hp : p.2 ≤ 4611686018427387904) : Spec Tryz.prog 31 [.agg (inC p a n c).toArray] [rsl 32 a n c (l.map iC)] [] (fun v D' M' => v = S (inT p l) ∧ D' = [] ∧ M' = []) := by
 refine zv (n := 17) Tryz.func31 ?_
 intro σ D M
 refine yU (rows := l.map iC) qM (fun hpl hpc => ?_)
 rw [List.length_map] at hpl
 have hp3 := inC_len p a n c
 have hp32 := p.1.2
 have hil := idsB_len (l := l) jO
 have hp9 := numB_len (n := p.2.toNat) jO
 refine O (y6 R R R (fun b1 => ?_))
 refine V R R (zu (zO (A := cl b1 75 (inC p a n c)) qP ?_))
 refine z8 (ze (y7 (clsL [1, 1, 0, 0, 1, 1, 0, 0, 0, 1, 1, 0, 2, 1, 1]) qk ?_))
 refine z9 0 R R (zg R fo75_0 R ?_)
 refine z7 (z9 1 R R (zg R fo73_0 R ?_))
 refine z7 (z9 4 R R (zg R fo75_0 R ?_))
 refine z7 (z9 5 R R (zg R fo73_1 R ?_))
 refine z7 (z9 10 R R (zg R fo75_1 R ?_))
 refine z7 (zY (i := 2) R R R R qk qk qk qk R qD qF ?_)
 refine zx R zI R qN ?_
 refine z7 (zY (i := 6) R R R R qk qk qk qk R qD qF ?_)
 refine zf R sc3 R qC ?_
 refine z7 (zY (i := 11) R R R R qk qk qk qk R qD qF ?_)
 refine zf R sc32 R qC ?_
 refine z7 (yA (is := [3, 7]) qk jD (zU R ?_ <| zU R ?_ <| yB) )
 ·refine zH R (ev1 R) qD qS (obytes_spec (l := p.1.1) hp32) jF ?_
  refine yH R qD qF ?_
  refine zi 7 R (yl R bs221 jD (zF R R R <| zQ (out := []) R) (fun b10 => ?_))
  refine yR (len := 1) qP (rows := ([p.2] : List Int).map e3) (sz := 1) (by rfl) R (by simp) ?_
  refine yF qP ?_
  refine yH R qD qF ?_
  refine zi 8 R (zp R (ev1 R) qD qS (bnums_spec (xs := [p.2]) jD (by simp; omega)) ?_)
  rintro _ _ _ ⟨rfl, rfl, rfl⟩
  refine zm qA qA ?_
  refine zE (t := 11) (u := S (numB p.2.toNat)) R (congrArg S (by simp)) ?_
  refine yH R qD qF ?_
  refine z9 9 R R (L.addS R R R qI ?_)
  refine z7 (zi 12 R (zH R (ev1 R) qD qS (bids_spec (l := l) hn) jF ?_))
  refine zh R qD ?_
  refine z9 13 R R (L.addS R R R qI ?_)
  refine zE (t := 16) (u := S (inT p l)) R R ?_
  refine z7 (z9 14 R R (V R R (z7 (zN qk ?_))))
  exact z8 (zo (zy R R ⟨R, R, R⟩ qD qF))
 refine yl R bs221 jD (zF R R R <| zQ (out := []) R) (fun b10 => ?_)
 refine yR (len := 1) qP (rows := ([p.2] : List Int).map e3) (sz := 1) (by rfl) R (by simp) ?_
 refine yF qP ?_
 refine yH R qD qF ?_
 refine zi 3 R (zH R (ev1 R) qD qS (obytes_spec (l := p.1.1) hp32) jF ?_)
 refine yH R qD qF ?_
 refine zi 8 R (zp R (ev1 R) qD qS (bnums_spec (xs := [p.2]) jD (by simp; omega)) ?_)
 rintro _ _ _ ⟨rfl, rfl, rfl⟩
 refine zm qA qA ?_
 refine zE (t := 11) (u := S (numB p.2.toNat)) R (congrArg S (by simp)) ?_
 refine yH R qD qF ?_
 refine z9 9 R R (L.addS R R R qI ?_)
 refine z7 (zi 12 R (zH R (ev1 R) qD qS (bids_spec (l := l) hn) jF ?_))
 refine zh R qD ?_
 refine z9 13 R R (L.addS R R R qI ?_)
 refine zE (t := 16) (u := S (inT p l)) R R ?_
 refine z7 (z9 14 R R (V R R (z7 (zN qk ?_))))
 exact z8 (zo (zy R R ⟨R, R, R⟩ qD qF))
theorem iname_spec {a : Option Addr} {n c : Nat} {l : List ID32} {p : Pt} (hn : n ≤ 1000000) (hp : p.2 ≤ 4611686018427387904) : Spec Tryz.prog 25 [.agg (inC p a n c).toArray] [rsl 32 a n c (l.map iC)] [] (fun v D' M' => v = .agg (iC (inN p l)).toArray ∧ D' = [] ∧ M' = []) := by
 refine zv (n := 7) Tryz.func25 ?_
 intro σ D M
 refine yU (rows := l.map iC) qM (fun hpl hpc => ?_)
 rw [List.length_map] at hpl
 have hp3 := inC_len p a n c
 have hp32 := p.1.2
 have hil := inT_len (l := l) hp jO
 have hn3 := yw (inN p l)
 refine O (y6 R R R (fun b1 => ?_))
 refine zC R ze38 (fun b2 => ?_)
 refine zu (zO (A := cl b1 75 (inC p a n c)) qP ?_)
 refine z8 (O (zx R yu R qN ?_))
 refine zH R (ev1 R) qD qS (itext_spec (l := l) hn hp) jF ?_
 refine yl R bs27 jD (zF R R R <| zQ (out := []) R) (fun b5 => ?_)
 refine yR (len := 1) qP (rows := [inT p l].map ys) (sz := 1) (by rfl) R (by simp) ?_
 refine yF qP ?_
 refine zp R (ev2 R R) qD qS (oidof_spec (ls := [inT p l]) (by simp; omega) (by simp)) ?_
 rintro _ _ _ ⟨rfl, rfl, rfl⟩
 refine zm qA qA ?_
 refine zE (t := 6) (u := .agg (iC (inN p l)).toArray) R (by unfold inN; simp only [iC, oI_val, List.flatten_cons, List.flatten_nil, List.append_nil]) ?_
 refine zz zI R R qL qO qU qW ?_
 exact I (zo (xt R zI R qN ⟨R, R, R⟩ qD qF))
theorem icheck_spec {a : Option Addr} {n c : Nat} {l : List ID32} {p : Pt} (hn : n ≤ 1000000) : Spec Tryz.prog 188 [.agg (inC p a n c).toArray] [rsl 32 a n c (l.map iC)] [] (fun v D' M' => v = .int .i64 (chkI p l) ∧ D' = [] ∧ M' = []) := by
 refine zv (n := 40) Tryz.func188 ?_
 intro σ D M
 refine yU (rows := l.map iC) qM (fun hpl hpc => ?_)
 rw [List.length_map] at hpl
 have hp3 := inC_len p a n c
 have hp32 := p.1.2
 
 refine O (y6 R R R (fun b1 => ?_))
 refine V R R (zu (zO (A := cl b1 75 (inC p a n c)) qP ?_))
 refine z8 (ze (zD (O (zg R fo75_0 R ?_))))
 refine zg R fo73_1 R ?_
 refine zf R sc3 R qC ?_
 refine zW R R R (V R R (I (zA R (fun h4 => ?_) (fun h4 => ?_))))
 ·try simp only [dq] at h4
  exact O (V R R (I (zo (yv (zL (zy R R ⟨by rw [chk_2 h4], R, R⟩ qD qF))))))
 try simp only [dq] at h4
 refine O (zg R fo75_0 R ?_)
 refine zg R fo73_1 R ?_
 refine zf R sc3 R qC ?_
 refine yy R R R (E R R (yT (t := 14) R (fun h1 => ?_) (fun h1 => ?_)))
 ·try simp only [dq] at h1
  refine zw 14 true R R R R R jD (zw 14 true R R R R R jD (zw 14 true R R R R R jD (zw 14 true R R R R R jD (ym R R R (V R R (I (yV R R ?_)))))))
  exact O (V R R (I (zo (yv (zL (zy R R ⟨by rw [chk_5 h4 jO], R, R⟩ qD qF))))))
 try simp only [dq] at h1
 refine zj 14 R R R (zg R fo75_1 R ?_)
 refine zj 14 R R R (zf R sc32 R qC ?_)
 refine zj 14 R R R (yb R yh R (zj 14 R R R (yy R R R (yg R R R (V R R (I (zA R (fun h9 => ?_) (fun h9 => ?_))))))))
 ·try simp only [dq] at h9
  exact O (V R R (I (zo (yv (zL (zy R R ⟨by rw [chk_5 h4 jO], R, R⟩ qD qF))))))
 try simp only [dq] at h9
 refine zq (zS (z8 (ze (O (V R R (I (zD (y8 (fun K' D' M' μ => ∃ (i : Nat), ((1 ≤ i ∧ (i ≤ n ∨ i = 1)) ∧ rsR l i) ∧ K' = [(3, .int .i64 (i : Int))] ∧ D' = [] ∧ M' = [] ∧ μ = n - i) (.c 1 R <| zd _) (⟨1, ⟨by omega, fun j hj => by omega⟩, R, R, R, R⟩) (.c 3 R <| zd _) qD qS ?_))))))))
 rintro K1 D1 M1 m1 ⟨i, ⟨hi, hr⟩, rfl, rfl, rfl, rfl⟩
 refine zM qA qA qA ?_
 refine ze (O (E R R (zg R fo75_1 R ?_)))
 refine zf R sc32 R qC ?_
 refine yb R yh R (zW R R R (I (zA R (fun h24 => ?_) (fun h24 => ?_))))
 ·try simp only [dq] at h24
  refine zq (z8 (ze (zD (ze ?_))))
  have hg0 : l[i]? = some (gd l (i)) := y9 jO
  have hgr0 : (l.map iC)[i]? = some (iC (gd l (i))) := yJ hg0
  have hw0 := yw (gd l (i))
  have hv0 := (gd l (i)).2
  have hg1 : l[i - 1]? = some (gd l (i - 1)) := y9 jO
  have hgr1 : (l.map iC)[i - 1]? = some (iC (gd l (i - 1))) := yJ hg1
  have hw1 := yw (gd l (i - 1))
  have hv1 := (gd l (i - 1)).2
  refine T.rslAddr (rows := l.map iC) qM (fun e => by have := congrArg List.length e; rw [List.length_map] at this; simp only [List.length_nil] at this; omega) (fun b o ha => ?_)
  subst ha
  refine xg qk qk (zg R fo75_1 R ?_)
  refine zf R sc32 R qC ?_
  refine E R R (yt R R R jO ?_)
  refine L.idxR (i := i - 1) R yh sz38 R R qM jR qI qG ?_
  refine zx R zI R (xl qM (hw1)) ?_
  refine zg R fo75_1 R ?_
  refine zf R sc32 R qC ?_
  refine E R R (L.idxR (i := i) R yh sz38 R R qM jR qI qG ?_)
  refine zx R zI R (xl qM (hw0)) ?_
  refine zH R (ev2 R R) qD qS (ocmp_spec (x := gd l (i - 1)) (y := gd l i)) jF ?_
  refine L.geI R R R (yY (z8 (zA R (fun h39 => ?_) (fun h39 => ?_))))
  ·try simp only [dq] at h39
   exact O (V R R (I (zo (yv (zL (zL (yv (zL (zy R R ⟨by rw [chk_r h4 jO jO h39], R, R⟩ qD qF)))))))))
  try simp only [dq] at h39
  refine zq (zS (z8 (zt (E R R (zT R R R jO ?_)))))
  exact V R R (I (zV ⟨i + 1, ⟨by omega, rsR_s hi.1 hr h39⟩, R, R, R, R⟩ qI (.c 3 R <| zd _) (.c 1 R <| zd _) qD qD qF))
 try simp only [dq] at h24
 exact y4 (zG (zG (y5 (z8 (O (V R R (I (zo (zy R R ⟨by rw [chk_0 h4 jO (fun j hj => hr j jO)], R, R⟩ qD qF)))))))))
end Cv
