/-
  The walks: names.
-/
import Derived.Test.YtahkbpiinbepcaaGreatIJ11
import Derived.Test.YtahkbpiinbepcaaGreatCvLg
import Derived.Test.YtahkbpiinbepcaaGreatPP11
import Derived.Test.YtahkbpiinbepcaaGreatProg
import Derived.KernelRfl
set_option linter.unusedVariables false
set_option linter.unusedSimpArgs false
set_option linter.unusedSectionVars false
set_option maxHeartbeats 400000
set_option maxRecDepth 10000
namespace Cv
open Go Go.Proofs
/-! ## names in a row, each once -/
theorem tk_tail {α : Type} {l r : List α} {i : Nat} (h : i ≤ l.length) : (l.take i ++ r).take i = l.take i := by
  rw [List.take_append_of_le_length (by simp; omega), List.take_take, Nat.min_self]
def cfI (x y : ID32) : Int := cmpB x.1 y.1
theorem cfI_swo : SWO cfI where
  asym x y h k := by
    unfold cfI at h k
    have := cmpB_neg x.1 y.1
    omega
  ntrans x y z h k l := by
    unfold cfI at h k l
    have n1 := cmpB_neg y.1 x.1
    have n2 := cmpB_neg z.1 y.1
    have n3 := cmpB_neg x.1 z.1
    rcases Int.lt_or_le (cmpB y.1 x.1) 0 with a | a
    · exact k (cmpB_trans a l)
    · have e1 : cmpB y.1 x.1 = 0 := by omega
      rw [cmpB_eq e1] at k
      exact k l
theorem cfI_irr (x : ID32) : ¬ cfI x x < 0 := by unfold cfI; rw [cmpB_self]; omega
theorem cfI_zero {x y : ID32} (h1 : ¬ cfI x y < 0) (h2 : ¬ cfI y x < 0) : x = y := by
  unfold cfI at h1 h2
  have := cmpB_neg x.1 y.1
  exact Subtype.ext (cmpB_eq (by omega))
def ddS (acc : List ID32) (x : ID32) : List ID32 := if acc.getLast? = some x then acc else acc ++ [x]
def ddp (l : List ID32) : List ID32 := l.foldl ddS []
theorem ddp_s {xs : List ID32} {j : Nat} {x : ID32} (h : xs[j]? = some x) : ddp (xs.take (j + 1)) = ddS (ddp (xs.take j)) x := by
  unfold ddp; rw [List.take_add_one, h, List.foldl_append]; rfl
theorem ddp_last {xs : List ID32} {j : Nat} {x : ID32} (h : xs[j]? = some x) : (ddp (xs.take (j + 1))).getLast? = some x := by
  rw [ddp_s h]; unfold ddS
  split
  · assumption
  · simp
theorem ddp_same {xs : List ID32} {j : Nat} {x : ID32} (hj : 1 ≤ j) (h : xs[j]? = some x) (k : xs[j - 1]? = some x) : ddp (xs.take (j + 1)) = ddp (xs.take j) := by
  have := ddp_last k
  rw [Nat.sub_add_cancel hj] at this
  rw [ddp_s h]; unfold ddS; rw [if_pos this]
theorem ddp_diff {xs : List ID32} {j : Nat} {x y : ID32} (hj : 1 ≤ j) (h : xs[j]? = some x) (k : xs[j - 1]? = some y) (e : x ≠ y) : ddp (xs.take (j + 1)) = ddp (xs.take j) ++ [x] := by
  have := ddp_last k
  rw [Nat.sub_add_cancel hj] at this
  rw [ddp_s h]; unfold ddS; rw [if_neg (by rw [this]; intro q; exact e (Option.some.inj q).symm)]
theorem ddp_short {xs : List ID32} (h : xs.length < 2) : ddp xs = xs := by
  match xs, h with
  | [], _ => rfl
  | [x], _ => rfl
  | _ :: _ :: _, h => simp only [List.length_cons] at h; omega
theorem ddp_one {xs : List ID32} (h : 1 ≤ xs.length) : ddp (xs.take 1) = xs.take 1 := ddp_short (by rw [List.length_take]; omega)
theorem ddp_next {xs : List ID32} {k : Nat} {x y : ID32} (hk : 1 ≤ k) (h : xs[k]? = some x) (h1 : xs[k - 1]? = some y) (e : x ≠ y) (hd : ddp (xs.take k) = xs.take k) : ddp (xs.take (k + 1)) = xs.take (k + 1) := by
  rw [ddp_diff hk h h1 e, hd, List.take_add_one, h]; rfl
structure CmpI (xs ys : List ID32) (m j : Nat) : Prop where
  len : ys.length = xs.length
  le : 1 ≤ m ∧ m + 1 ≤ j ∧ j ≤ xs.length
  pre : ys.take m = ddp (xs.take j)
  suf : ∀ i, j ≤ i + 1 → ys[i]? = xs[i]?
theorem CmpI.start {xs : List ID32} {k : Nat} {x : ID32} (hk : 1 ≤ k) (h : xs[k]? = some x) (h1 : xs[k - 1]? = some x) (hd : ddp (xs.take k) = xs.take k) : CmpI xs xs k (k + 1) :=
  ⟨rfl, ⟨hk, Nat.le_refl _, (List.getElem?_eq_some_iff.1 h).1⟩, by rw [ddp_same hk h h1, hd], fun _ _ => rfl⟩
theorem CmpI.same {xs ys : List ID32} {m j : Nat} (h : CmpI xs ys m j) {x : ID32} (hj : ys[j]? = some x) (hj1 : ys[j - 1]? = some x) : CmpI xs ys m (j + 1) := by
  obtain ⟨h1, ⟨h2, h3, h4⟩, h5, h6⟩ := h
  rw [h6 j (by omega)] at hj
  rw [h6 (j - 1) (by omega)] at hj1
  exact ⟨h1, ⟨h2, by omega, (List.getElem?_eq_some_iff.1 hj).1⟩, by rw [ddp_same (by omega) hj hj1, h5], fun i hi => h6 i (by omega)⟩
theorem CmpI.diff {xs ys : List ID32} {m j : Nat} (h : CmpI xs ys m j) {x y : ID32} (hj : ys[j]? = some x) (hj1 : ys[j - 1]? = some y) (e : x ≠ y) : CmpI xs (ys.set m x) (m + 1) (j + 1) := by
  obtain ⟨h1, ⟨h2, h3, h4⟩, h5, h6⟩ := h
  rw [h6 j (by omega)] at hj
  rw [h6 (j - 1) (by omega)] at hj1
  refine ⟨by rw [List.length_set, h1], ⟨by omega, by omega, (List.getElem?_eq_some_iff.1 hj).1⟩, ?_, fun i hi => by rw [List.getElem?_set_ne (by omega)]; exact h6 i (by omega)⟩
  rw [ddp_diff (by omega) hj hj1 e, ← h5, List.take_add_one, List.take_set_of_le (Nat.le_refl _), List.getElem?_set_self (by omega)]; rfl
theorem CmpI.fin {xs ys : List ID32} {m : Nat} (h : CmpI xs ys m xs.length) : ys.take m = ddp xs := by
  rw [h.pre, List.take_length]
structure NamesF (xs l : List ID32) : Prop where
  asc : l.Pairwise (fun x y => x.1 < y.1)
  mem : ∀ z, z ∈ l ↔ z ∈ xs
theorem ddp_asc {xs : List ID32} (h : SrtP cfI xs 0 xs.length) : ∀ j, j ≤ xs.length → NamesF (xs.take j) (ddp (xs.take j))
  | 0, _ => ⟨List.Pairwise.nil, fun z => Iff.rfl⟩
  | j + 1, hj => by
    obtain ⟨h1, h2⟩ := ddp_asc h j (by omega)
    have hg : xs[j]? = some (gd xs j) := zJ (by omega)
    by_cases hl : (ddp (xs.take j)).getLast? = some (gd xs j)
    · have e : ddp (xs.take (j + 1)) = ddp (xs.take j) := by rw [ddp_s hg]; unfold ddS; rw [if_pos hl]
      rw [e]
      refine ⟨h1, fun z => ?_⟩
      rw [h2, List.take_add_one, hg, List.mem_append]
      constructor
      · exact Or.inl
      · rintro (a | a)
        · exact a
        · have : z = gd xs j := by simpa using a
          rw [this]; exact (h2 _).1 (List.mem_of_getLast? hl)
    · have e : ddp (xs.take (j + 1)) = ddp (xs.take j) ++ [gd xs j] := by rw [ddp_s hg]; unfold ddS; rw [if_neg hl]
      rw [e]
      refine ⟨?_, fun z => ?_⟩
      · rw [List.pairwise_append]
        refine ⟨h1, List.pairwise_singleton _ _, fun z hz x hx => ?_⟩
        have hx : x = gd xs j := by simpa using hx
        subst hx
        obtain ⟨p, hp, hpe⟩ := List.mem_iff_getElem.1 ((h2 z).1 hz)
        have hpj : p < j := by rw [List.length_take] at hp; omega
        have hz' : z = gd xs p := by
          have hq : xs[p]? = some (gd xs p) := zJ (by omega)
          rw [List.getElem_take] at hpe
          rw [List.getElem?_eq_getElem (by omega)] at hq
          rw [← hpe]; exact Option.some.inj hq
        have hn := h p j (Nat.zero_le _) hpj (by omega)
        unfold NL at hn
        rw [← hz'] at hn
        refine cmpB_lt.1 (Decidable.byContradiction fun hc => hl ?_)
        have hze : z = gd xs j := cfI_zero hc hn
        have hk : xs[j - 1]? = some (gd xs (j - 1)) := zJ (by omega)
        have hk2 := ddp_last hk
        rw [Nat.sub_add_cancel (by omega)] at hk2
        rw [hk2]
        have a1 := h (j - 1) j (Nat.zero_le _) (by omega) (by omega)
        unfold NL at a1
        have a2 : ¬ cfI (gd xs (j - 1)) (gd xs j) < 0 := by
          rw [← hze, hz']
          rcases Nat.lt_or_ge p (j - 1) with q | q
          · exact h p (j - 1) (Nat.zero_le _) q (by omega)
          · have : p = j - 1 := by omega
            subst this; exact cfI_irr _
        rw [cfI_zero a2 a1]
      · rw [List.mem_append, h2, List.take_add_one, hg, List.mem_append]; rfl
theorem ddp_names {xs ys : List ID32} (hp : ys.Perm xs) (h : SrtP cfI ys 0 ys.length) : NamesF xs (ddp ys) := by
  have := ddp_asc h ys.length (Nat.le_refl _)
  rw [List.take_length] at this
  exact ⟨this.asc, fun z => (this.mem z).trans hp.mem_iff⟩

theorem bcx : IsX Tryz.prog 121 Extern.BytealgCompare.compare := IsX.of Tryz.func121 qk qk qk qk
theorem bcmp_spec {a b : Option Addr} {la ca lb cb : Nat} {p q : List UInt8}  : Spec Tryz.prog 86 [.slice a la ca, .slice b lb cb] [rsl 1 a la ca (p.map yr), rsl 1 b lb cb (q.map yr)] [] (fun v D' M' => v = .int .i64 (cmpB p q) ∧ D' = [] ∧ M' = []) := by
 refine zC (n := 8) Tryz.func86 ?_
 intro σ D M
 refine z6 (z8 (z9 rfl rfl (z7 (z4 (z6 (z8 (z5 rfl rfl (z5 rfl rfl (L.cmpSl bcx rfl (ev2 rfl rfl) qM qM ?_)))))))))
 exact z9 rfl rfl (z7 (z4 (zi (zz rfl rfl ⟨rfl, rfl, rfl⟩ qD qF))))
theorem ocmp_spec {x y : ID32}  : Spec Tryz.prog 55 [.agg (iC x).toArray, .agg (iC y).toArray] [] [] (fun v D' M' => v = .int .i64 (cfI x y) ∧ D' = [] ∧ M' = []) := by
 refine zC (n := 8) Tryz.func55 ?_
 intro σ D M
 have hx := x.2
 have hy := y.2
 have hx3 := zT x
 have hy3 := zT y
 refine z6 (z8 (yq rfl rfl rfl (fun b2 => ?_)))
 refine yq rfl rfl rfl (fun b3 => ?_)
 refine z9 rfl rfl (z7 (T.toOwn (b := b2) (len := 32) qP (rows := x.1.map yr) (sz := 1) (yr_flat x.1) (by simp [hx]) (by simp) ?_))
 refine yD qP ?_
 refine T.toOwn (b := b3) (len := 32) qP (rows := y.1.map yr) (sz := 1) (yr_flat y.1) (by simp [hy]) (by simp) ?_
 refine yD qP ?_
 refine z4 (z6 (yC qk qk (xD rfl yf sz5 rfl Bd.no Bd.no qI qI ?_)))
 refine zv (t := 5) (u := .slice (some ⟨b2, 0, none⟩) 32 32) rfl (by first | rfl | simp [cutA, Addr.add]) ?_
 refine xD rfl yf sz5 rfl Bd.no Bd.no qI qI ?_
 refine zv (t := 6) (u := .slice (some ⟨b3, 0, none⟩) 32 32) rfl (by first | rfl | simp [cutA, Addr.add]) ?_
 refine zW rfl (ev2 rfl rfl) qD qS (bcmp_spec (p := x.1) (q := y.1)) jF ?_
 exact z9 rfl rfl (yA (z4 (zi (zz rfl rfl ⟨rfl, rfl, rfl⟩ qD qF))))
theorem clone_spec {a : Option Addr} {len cap : Nat} {xs : List ID32} (hb : len ≤ 1000000) : Spec Tryz.prog 51 [.slice a len cap] [rsl 32 a len cap (xs.map iC)] [] (fun v D' M' => ∃ (a' : Option Addr) (len' cap' : Nat), v = .slice a' len' cap' ∧ (len' = len) ∧ D' = [] ∧ M' = [own 32 38 a' len' cap' ((xs).map iC)]) := by
 refine zC (n := 8) Tryz.func51 ?_
 intro σ D M
 refine yH qM (fun hl hc => ?_)
 rw [List.length_map] at hl
 refine z6 (z8 (z9 rfl rfl (z7 (z4 (z6 (z6 (z8 (z5 rfl rfl (L.eqlSl rfl zA rfl rfl ?_)))))))))
 refine z7 (z4 (zo rfl (fun h4 => ?_) (fun h4 => ?_)))
 ·try simp only [dq] at h4
  obtain rfl : a = none := by simpa using h4
  refine T.rslNil qM (fun h0 => ?_)
  obtain rfl : xs = [] := by cases xs with
   | nil => rfl
   | cons x l => simp at h0
  obtain rfl : len = 0 := by simpa using hl.symm
  refine yF (sz := 32) (e := 38) ?_
  refine zZ qP (show own 32 38 none 0 0 [] = own 32 38 none 0 0 ((([] : List ID32)).map iC) from rfl) ?_
  exact z6 (z8 (z9 rfl rfl (z7 (z4 (zi (zD (zz rfl rfl ⟨_, _, _, rfl, rfl, rfl, rfl⟩ qD qF)))))))
 ·try simp only [dq] at h4
  refine zm (z4 (z6 (z8 (yh rfl bs30 jD (zO (out := []) rfl) (fun b5 => ?_)))))
  refine yU (len := 0) qP (rows := []) (sz := 32) (by rfl) rfl (by simp) ?_
  refine z5 rfl rfl (xy rfl zA zA el38 rfl rfl qP (rd_D qM) one_ids qI qI (fun a7 c7 => ?_))
  refine z9 rfl rfl (z7 ?_)
  simp only [Nat.zero_add, List.nil_append]
  exact z4 (zi (zz rfl rfl ⟨_, _, _, rfl, by simp, rfl, rfl⟩ qD qF))
theorem compact_spec {a : Option Addr} {len cap : Nat} {xs : List ID32} (hb : len ≤ 1000000) : Spec Tryz.prog 134 [.slice a len cap] [] [own 32 38 a len cap ((xs).map iC)] (fun v D' M' => ∃ (a' : Option Addr) (len' cap' : Nat), v = .slice a' len' cap' ∧ ((ddp xs).length = len') ∧ D' = [] ∧ M' = [own 32 38 a' len' cap' ((ddp xs).map iC)]) := by
 refine zC (n := 61) Tryz.func134 ?_
 intro σ D M
 refine xi qM (fun hl hc => ?_)
 rw [List.length_map] at hl
 refine z6 (z8 (z9 rfl rfl (z7 (z4 (z6 (z6 (z8 (z5 rfl rfl (y2 rfl zA rfl (zQ rfl rfl rfl (z7 (z4 (zo rfl (fun h8 => ?_) (fun h8 => ?_))))))))))))))
 ·try simp only [dq] at h8
  have hds := ddp_short (xs := xs) jO
  refine y4 a ((ddp xs).map iC) qP (by rw [hds]) ?_
  exact z6 (z8 (z5 rfl rfl (z9 rfl rfl (z7 (z4 (zi (zD (zz rfl rfl ⟨_, _, _, rfl, by rw [hds]; exact hl, rfl, rfl⟩ qD qF))))))))
 ·try simp only [dq] at h8
  refine T.ownNe qM jO (fun b o ha => ?_)
  subst ha
  refine zm (z4 (z6 (z6 (z8 (z9 rfl rfl (z7 (z4 (zr (zX (fun K' D' M' μ => ∃ (k : Nat), ((1 ≤ k ∧ k ≤ len) ∧ ddp (xs.take k) = xs.take k) ∧ K' = [(3, .int .i64 (k : Int))] ∧ D' = [] ∧ M' = [own 32 38 (some ⟨b, o, none⟩) len cap ((xs).map iC)] ∧ μ = len - k) (.c 0 rfl <| za _) (⟨1, ⟨by omega, ddp_one jO⟩, rfl, rfl, rfl, rfl⟩) (.c 3 rfl <| za _) qD qS ?_)))))))))
  rintro K1 D1 M1 m1 ⟨k, ⟨hk, hd⟩, rfl, rfl, rfl, rfl⟩
  refine zF qA qA qA ?_
  refine z6 (z6 (z8 (z5 rfl rfl (z5 rfl rfl (y2 rfl zA rfl (zQ rfl rfl rfl (z7 (z4 (zo rfl (fun h13 => ?_) (fun h13 => ?_))))))))))
  ·try simp only [dq] at h13
   refine zm (z4 (z6 (zr (z6 ?_))))
   have hg0 : xs[k]? = some (gd xs (k)) := zJ jO
   have hw0 := zT (gd xs (k))
   have hv0 := (gd xs (k)).2
   have hg1 : xs[k - 1]? = some (gd xs (k - 1)) := zJ jO
   have hw1 := zT (gd xs (k - 1))
   have hv1 := (gd xs (k - 1)).2
   refine yC qk qk (z5 rfl rfl (z5 rfl rfl (zV (i := k) rfl zA zN rfl rfl jR qI ?_)))
   refine zp rfl zu rfl (yg qM (zU hg0) hw0) ?_
   refine z5 rfl rfl (z5 rfl rfl (y7 rfl rfl rfl jO ?_))
   refine zV (i := k - 1) rfl zA zN rfl rfl jR qI ?_
   refine zp rfl zu rfl (yg qM (zU hg1) hw1) ?_
   refine L.eqlArrI qk rfl yf zY sc5 rfl rfl qL qL ?_
   refine yA (z4 (zo rfl (fun h25 => ?_) (fun h25 => ?_)))
   ·try simp only [dq] at h25
    have h25 := Subtype.ext h25
    have hg0b := hg0
    rw [h25] at hg0b
    refine z6 (z8 (z5 rfl rfl (z5 rfl rfl (L.sliceSl rfl zA zN rfl (Bd.at (x := k) rfl jR) Bd.no qI qI ?_))))
    refine zv (t := 28) (u := .slice (some ⟨b, o + k * 32, none⟩) (len - k) (cap - k)) rfl (by unfold cutA; rw [if_neg jO]; simp [Addr.add]; omega) ?_
    refine z9 rfl rfl (z7 (z4 (z6 (z6 (z8 (z9 rfl rfl (z7 (z4 (zr (zX (fun K' D' M' μ => ∃ (m d j : Nat) (ys : List ID32), (CmpI xs ys m j ∧ j = k + d ∧ 1 ≤ d) ∧ K' = [(3, .int .i64 (m : Int)), (5, .int .i64 (d : Int)), (4, .slice (some ⟨b, o + k * 32, none⟩) (len - k) (cap - k))] ∧ D' = [] ∧ M' = [own 32 38 (some ⟨b, o, none⟩) len cap ((ys).map iC)] ∧ μ = len - j) (.c 0 rfl <| .c 4 rfl <| za _) (⟨k, 1, k + 1, xs, ⟨CmpI.start hk.1 hg0b hg1 hd, rfl, Nat.le_refl _⟩, rfl, rfl, rfl, rfl⟩) (.c 3 rfl <| .c 5 rfl <| .c 4 rfl <| za _) qD qS ?_))))))))))
    rintro K1 D1 M1 m1 ⟨m, d, j, ys, ⟨hI, hkj, hd1⟩, rfl, rfl, rfl, rfl⟩
    refine zF qA qA qA ?_
    have hyl := hI.len
    have hle := hI.le
    refine z6 (z6 (z8 (z5 rfl rfl (z5 rfl rfl (y2 rfl zA rfl (zQ rfl rfl rfl (z7 (z4 (zo rfl (fun h32 => ?_) (fun h32 => ?_))))))))))
    ·try simp only [dq] at h32
     refine zm (z4 (z6 (zr (z6 ?_))))
     have hg0 : ys[j]? = some (gd ys (j)) := zJ jO
     have hw0 := zT (gd ys (j))
     have hv0 := (gd ys (j)).2
     have hg1 : ys[j - 1]? = some (gd ys (j - 1)) := zJ jO
     have hw1 := zT (gd ys (j - 1))
     have hv1 := (gd ys (j - 1)).2
     refine yC qk qk (z5 rfl rfl (z5 rfl rfl (zV (i := d) rfl zA zN rfl rfl jR qI ?_)))
     refine zv (t := 37) (u := .pointer (some ⟨b, o + (j) * 32, none⟩)) rfl (congrArg (fun q => Value.pointer (some ⟨b, q, none⟩)) jO) ?_
     refine zp rfl zu rfl (yg qM (zU hg0) hw0) ?_
     refine z5 rfl rfl (z5 rfl rfl (y7 rfl rfl rfl jO ?_))
     refine zV (i := d - 1) rfl zA zN rfl rfl jR qI ?_
     refine zv (t := 42) (u := .pointer (some ⟨b, o + (j - 1) * 32, none⟩)) rfl (congrArg (fun q => Value.pointer (some ⟨b, q, none⟩)) jO) ?_
     refine zp rfl zu rfl (yg qM (zU hg1) hw1) ?_
     refine L.neqArrI qk rfl yf zY sc5 rfl rfl qL qL ?_
     refine yA (z4 (zo rfl (fun h44 => ?_) (fun h44 => ?_)))
     ·try simp only [dq] at h44
      have h44 : gd ys j ≠ gd ys (j - 1) := fun e => h44 (by rw [e])
      refine z6 ?_
      have hg0 : ys[j]? = some (gd ys (j)) := zJ jO
      have hw0 := zT (gd ys (j))
      have hv0 := (gd ys (j)).2
      refine z8 (z5 rfl rfl (z5 rfl rfl (z5 rfl rfl (z5 rfl rfl (zV (i := d) rfl zA zN rfl rfl jR qI ?_)))))
      refine zv (t := 49) (u := .pointer (some ⟨b, o + (j) * 32, none⟩)) rfl (congrArg (fun q => Value.pointer (some ⟨b, q, none⟩)) jO) ?_
      refine zp rfl zu rfl (yg qM (zU hg0) hw0) ?_
      refine zV (i := m) rfl zA zN rfl rfl jR qI ?_
      refine yS (m) zu rfl jR rfl qL qO qP qI ?_
      refine z7 (z4 (z8 (z5 rfl rfl (zH rfl rfl rfl jO ?_))))
      refine z9 rfl rfl (z7 (zI (z4 (z8 (z5 rfl rfl (zH rfl rfl rfl jO ?_))))))
      refine z9 rfl rfl (z7 (z4 (y4 _ ((ys.set m (gd ys j)).map iC) qP (by rw [List.map_set]) ?_)))
      exact zM ⟨m + 1, d + 1, j + 1, ys.set m (gd ys j), ⟨hI.diff hg0 hg1 h44, by omega, by omega⟩, rfl, rfl, rfl, rfl⟩ qI (.c 3 rfl <| .c 5 rfl <| .c 4 rfl <| za _) (.c 0 rfl <| .c 4 rfl <| za _) qD qD qF
     ·try simp only [dq] at h44
      have h44 : gd ys j = gd ys (j - 1) := Subtype.ext (by simpa using h44)
      have hg0b := hg0
      rw [h44] at hg0b
      refine zm (zI (z4 (z8 (z5 rfl rfl (zH rfl rfl rfl jO ?_)))))
      exact z9 rfl rfl (z7 (z4 (zM ⟨m, d + 1, j + 1, ys, ⟨hI.same hg0b hg1, by omega, by omega⟩, rfl, rfl, rfl, rfl⟩ qI (.c 3 rfl <| .c 5 rfl <| .c 4 rfl <| za _) (.c 0 rfl <| .c 4 rfl <| za _) qD qD qF)))
    ·try simp only [dq] at h32
     obtain hjl : j = xs.length := by omega
     rw [hjl] at hI
     subst hl
     have hfe := hI.fin
     refine zR (zq (zq (zS (z4 (z6 (z8 (z5 rfl rfl (z5 rfl rfl (L.sliceSl rfl zA zN rfl (Bd.at (x := m) rfl jR) Bd.no qI qI ?_)))))))))
     refine L.clearO (i := m) (sz := 32) zA zv38 rfl rfl qO rfl qP qI qI ?_
     refine z7 (z4 (z6 (z8 (z5 rfl rfl (z5 rfl rfl (L.sliceTo rfl zA zN rfl (Bd.at (x := m) rfl jR) qI ?_))))))
     refine z9 rfl rfl (z7 (T.ownTo (h := m) qP jO ?_))
     refine y4 _ ((ddp xs).map iC) qP (by rw [tk_tail (by simp; omega), ← List.map_take, hfe]) ?_
     exact z4 (zi (y3 (zD (zD (y3 (zD (zz rfl rfl ⟨_, _, _, rfl, by rw [← hfe, List.length_take]; omega, rfl, rfl⟩ qD qF)))))))
   ·try simp only [dq] at h25
    have h25 : gd xs k ≠ gd xs (k - 1) := fun e => h25 (by rw [e])
    refine zm (zI (z4 (z8 (z5 rfl rfl (zH rfl rfl rfl jO ?_)))))
    exact z9 rfl rfl (z7 (z4 (zM ⟨k + 1, ⟨by omega, ddp_next hk.1 hg0 hg1 h25 hd⟩, rfl, rfl, rfl, rfl⟩ qI (.c 3 rfl <| za _) (.c 0 rfl <| za _) qD qD qF)))
  ·try simp only [dq] at h13
   obtain rfl : k = len := by omega
   rw [List.take_of_length_le jO] at hd
   refine y4 _ ((ddp xs).map iC) qP (by rw [hd]) ?_
   exact zR (zq (zq (zS (z4 (z6 (z8 (z5 rfl rfl (z9 rfl rfl (z7 (z4 (zi (zz rfl rfl ⟨_, _, _, rfl, by rw [hd]; exact hl, rfl, rfl⟩ qD qF))))))))))))
theorem sorted_spec {a : Option Addr} {len cap : Nat} {xs : List ID32} (hb : len ≤ 60000) : Spec Tryz.prog 99 [.slice a len cap] [rsl 32 a len cap (xs.map iC)] [] (fun v D' M' => ∃ (a' : Option Addr) (len' cap' : Nat) (l : List ID32), v = .slice a' len' cap' ∧ (NamesF xs l) ∧ (l.length = len') ∧ D' = [] ∧ M' = [own 32 38 a' len' cap' ((l).map iC)]) := by
 refine zC (n := 9) Tryz.func99 ?_
 intro σ D M
 refine yH qM (fun hl hc => ?_)
 rw [List.length_map] at hl
 refine z6 (z8 (z9 rfl rfl (z7 (z4 (z6 (z8 (z5 rfl rfl (zx rfl (ev1 rfl) qD qS (clone_spec (xs := xs) jO) ?_))))))))
 rintro _ _ _ ⟨ca, cl, cc, rfl, hcl, rfl, rfl⟩
 refine zt qA qA ?_
 subst hcl
 refine z9 rfl rfl (z7 (z4 (z6 (z8 (z5 rfl rfl (zx rfl (ev2 rfl rfl) qD qS (sortw_spec (cf := cfI) (xs := xs) cfI_swo cfI_irr (fun x y => ocmp_spec) hb) ?_))))))
 rintro _ _ _ ⟨ys, rfl, hp, hs, rfl, rfl⟩
 refine zt qA qA ?_
 refine z7 (z4 (z6 (z8 (z5 rfl rfl (zx rfl (ev1 rfl) qD qS (compact_spec (xs := ys) jO) ?_)))))
 rintro _ _ _ ⟨da, dn, dc, rfl, hdn, rfl, rfl⟩
 refine zt qA qA ?_
 exact z9 rfl rfl (z7 (z4 (zi (zz rfl rfl ⟨_, _, _, ddp ys, rfl, ddp_names hp (by rw [hp.length_eq, hl]; exact hs), hdn, rfl, rfl⟩ qD qF))))
end Cv
set_option maxRecDepth 10000
namespace Cv
open Go Go.Proofs
/-! ## infos: the plain model -/
@[reducible] def inC (p : Pt) (a : Option Addr) (n c : Nat) : List Value := p.1.1.map Y ++ [.int .i64 p.2, .slice a n c]
theorem inC_len (p : Pt) (a : Option Addr) (n c : Nat) : (inC p a n c).length = 34 := by simp [p.1.2]
def idsI (n : Nat) (l : List ID32) (i : Nat) : List UInt8 := numB n ++ (l.take i).flatMap (·.1)
def idsB (l : List ID32) : List UInt8 := idsI l.length l l.length
theorem idsI_s {n : Nat} {l : List ID32} {i : Nat} {x : ID32} (h : l[i]? = some x) : idsI n l (i + 1) = idsI n l i ++ x.1 := by
  unfold idsI
  rw [List.take_add_one, h, List.flatMap_append]
  simp
theorem ids_flat_len (l : List ID32) : (l.flatMap (·.1)).length = 32 * l.length := by
  induction l with
  | nil => rfl
  | cons x l ih => rw [List.flatMap_cons, List.length_append, ih, x.2, List.length_cons]; omega
theorem idsI_len {n : Nat} {l : List ID32} {i : Nat} (hn : n ≤ 1000000) : (idsI n l i).length ≤ 9 + 32 * i := by
  have h1 := numB_len (n := n) (by omega)
  have h2 : (l.take i).length ≤ i := by rw [List.length_take]; omega
  unfold idsI; rw [List.length_append, ids_flat_len]; omega
theorem idsB_len {l : List ID32} (hl : l.length ≤ 1000000) : (idsB l).length ≤ 9 + 32 * l.length := idsI_len hl
def inT (p : Pt) (l : List ID32) : List UInt8 := p.1.1 ++ numB p.2.toNat ++ idsB l
theorem inT_len {p : Pt} {l : List ID32} (hp : p.2 ≤ 4611686018427387904) (hl : l.length ≤ 1000000) : (inT p l).length ≤ 50 + 32 * l.length := by
  have h1 := numB_len (n := p.2.toNat) (by omega)
  have h2 := idsI_len (n := l.length) (l := l) (i := l.length) hl
  have h3 := p.1.2
  unfold inT; rw [List.length_append, List.length_append]; unfold idsB; omega
def inN (p : Pt) (l : List ID32) : ID32 := oI 3 (inT p l)
def rsR (l : List ID32) (i : Nat) : Prop := ∀ j, j + 1 < i → ¬ 0 ≤ cfI (gd l j) (gd l (j + 1))
instance (l : List ID32) (i : Nat) : Decidable (rsR l i) := decidable_of_iff (∀ j, j < i - 1 → ¬ 0 ≤ cfI (gd l j) (gd l (j + 1))) ⟨fun h j hj => h j (by omega), fun h j hj => h j (by omega)⟩
def chkI (p : Pt) (l : List ID32) : Int := if p.2 < 1 then 2 else if 32768 < p.2 ∨ 8 < l.length then 5 else if rsR l l.length then 0 else 2
theorem rsR_s {l : List ID32} {i : Nat} (hi : 1 ≤ i) (h : rsR l i) (hc : ¬ 0 ≤ cfI (gd l (i - 1)) (gd l i)) : rsR l (i + 1) := fun j hj => by
  rcases Nat.lt_or_ge (j + 1) i with a | a
  · exact h j a
  · have : j = i - 1 := by omega
    subst this
    rw [Nat.sub_add_cancel hi]; exact hc
theorem chk_2 {p : Pt} {l : List ID32} (h : p.2 < 1) : chkI p l = 2 := by unfold chkI; rw [if_pos h]
theorem chk_5 {p : Pt} {l : List ID32} (h : ¬ p.2 < 1) (k : 32768 < p.2 ∨ 8 < l.length) : chkI p l = 5 := by unfold chkI; rw [if_neg h, if_pos k]
theorem chk_0 {p : Pt} {l : List ID32} (h : ¬ p.2 < 1) (k : ¬ (32768 < p.2 ∨ 8 < l.length)) (r : rsR l l.length) : chkI p l = 0 := by unfold chkI; rw [if_neg h, if_neg k, if_pos r]
theorem chk_r {p : Pt} {l : List ID32} {i : Nat} (h : ¬ p.2 < 1) (k : ¬ (32768 < p.2 ∨ 8 < l.length)) (hi : 1 ≤ i ∧ i < l.length) (r : 0 ≤ cfI (gd l (i - 1)) (gd l i)) : chkI p l = 2 := by
  unfold chkI; rw [if_neg h, if_neg k, if_neg fun q => q (i - 1) (by omega) (by rw [Nat.sub_add_cancel hi.1]; exact r)]

theorem bids_spec {a : Option Addr} {n c : Nat} {l : List ID32} (hn : n ≤ 1000000) : Spec Tryz.prog 67 [.slice a n c] [rsl 32 a n c (l.map iC)] [] (fun v D' M' => v = S (idsB l) ∧ D' = [] ∧ M' = []) := by
 refine zC (n := 22) Tryz.func67 ?_
 intro σ D M
 refine yH (rows := l.map iC) qM (fun hpl hpc => ?_)
 rw [List.length_map] at hpl
 
 refine z6 (z8 (z9 rfl rfl (z7 (z4 (z6 (z8 (z5 rfl rfl (y2 rfl zA rfl (yh rfl bs22 jD (zB rfl rfl rfl <| zO (out := []) rfl) (fun b8 => ?_))))))))))
 refine yU (len := 1) qP (rows := ([(n : Int)] : List Int).map e3) (sz := 1) (by rfl) rfl (by simp) ?_
 refine yZ qP ?_
 refine zx rfl (ev1 rfl) qD qS (bnums_spec (xs := [(n : Int)]) jD (by simp; omega)) ?_
 rintro _ _ _ ⟨rfl, rfl, rfl⟩
 refine zt qA qA ?_
 refine zv (t := 9) (u := S (idsI n l 0)) rfl (congrArg S (by simp [idsI])) ?_
 refine z9 rfl rfl (z7 (z4 (z6 (z6 (z8 (z5 rfl rfl (y2 rfl zA rfl (z5 rfl rfl (z7 (z4 (zr (zX (fun K' D' M' μ => ∃ (i : Nat), (i ≤ n) ∧ K' = [(12, .int .i64 (i : Int)), (3, S (idsI n l i))] ∧ D' = [] ∧ M' = [] ∧ μ = n - i) (.c 10 rfl <| .c 11 rfl <| za _) (⟨0, Nat.zero_le _, rfl, rfl, rfl, rfl⟩) (.c 12 rfl <| .c 3 rfl <| za _) qD qS ?_))))))))))))
 rintro K1 D1 M1 m1 ⟨i, hi, rfl, rfl, rfl, rfl⟩
 refine zF qA qA qA ?_
 refine z6 (z8 (zQ rfl rfl rfl (z7 (z4 (z6 (zo rfl (fun h13 => ?_) (fun h13 => ?_)))))))
 ·try simp only [dq] at h13
  refine zm (z4 (z6 (zr (z6 ?_))))
  have hgi : l[i]? = some (gd l i) := zJ jO
  obtain ⟨x, hx_⟩ : ∃ x, x = gd l i := ⟨_, rfl⟩
  rw [← hx_] at hgi
  have hgr : (l.map iC)[i]? = some (iC x) := zU hgi
  have hx := x.2
  have hx3 := zT x
  have hil := idsI_len (n := n) (l := l) (i := i) hn
  refine z8 (yI (i := i) rfl zA zN rfl rfl qM jR qG (fun b14 o14 => ?_))
  refine zp rfl zu rfl (x8 qM (hx3)) ?_
  refine zL rfl ze38 (fun b5 => ?_)
  refine zE zu rfl rfl qL qO qU qW ?_
  refine z7 (T.toOwn (b := b5) (len := 32) qP (rows := x.1.map yr) (sz := 1) (yr_flat x.1) (by simp [hx]) (by simp) ?_)
  refine yD qP ?_
  refine z4 (z8 (z5 rfl rfl (xD rfl yf sz5 rfl Bd.no Bd.no qI qI ?_)))
  refine zv (t := 17) (u := .slice (some ⟨b5, 0, none⟩) 32 32) rfl (by first | rfl | simp [cutA, Addr.add]) ?_
  refine L.bytesStr rfl yz zY yy rfl qM ?_
  refine L.addS rfl rfl rfl qI ?_
  refine zv (t := 19) (u := S (idsI n l (i + 1))) rfl (congrArg S (by rw [idsI_s hgi])) ?_
  refine z9 rfl rfl (z7 (zI (z4 (z8 (zH rfl rfl rfl jO ?_)))))
  exact z5 rfl rfl (z7 (z4 (zM ⟨i + 1, jO, rfl, rfl, rfl, rfl⟩ qI (.c 12 rfl <| .c 3 rfl <| za _) (.c 10 rfl <| .c 11 rfl <| za _) qD qD qF)))
 ·try simp only [dq] at h13
  obtain rfl : i = n := by omega
  exact zR (zq (zq (zS (z4 (z6 (z8 (z5 rfl rfl (z9 rfl rfl (z7 (z4 (zi (zz rfl rfl ⟨by unfold idsB; rw [hpl], rfl, rfl⟩ qD qF))))))))))))
theorem itext_spec {a : Option Addr} {n c : Nat} {l : List ID32} {p : Pt} (hn : n ≤ 1000000) (hp : p.2 ≤ 4611686018427387904) : Spec Tryz.prog 26 [.agg (inC p a n c).toArray] [rsl 32 a n c (l.map iC)] [] (fun v D' M' => v = S (inT p l) ∧ D' = [] ∧ M' = []) := by
 refine zC (n := 17) Tryz.func26 ?_
 intro σ D M
 refine yH (rows := l.map iC) qM (fun hpl hpc => ?_)
 rw [List.length_map] at hpl
 have hp3 := inC_len p a n c
 have hp32 := p.1.2
 have hil := idsB_len (l := l) jO
 have hp9 := numB_len (n := p.2.toNat) jO
 refine z6 (z8 (yq rfl rfl rfl (fun b1 => ?_)))
 refine z9 rfl rfl (z7 (y1 (A := cl b1 54 (inC p a n c)) qP ?_))
 refine z4 (z6 (yt (clsL [1, 1, 0, 0, 1, 1, 0, 0, 0, 1, 1, 0, 2, 1, 1]) qk ?_))
 refine ze 0 rfl rfl (zj rfl fo54_0 rfl ?_)
 refine zd (ze 1 rfl rfl (zj rfl fo51_0 rfl ?_))
 refine zd (ze 4 rfl rfl (zj rfl fo54_0 rfl ?_))
 refine zd (ze 5 rfl rfl (zj rfl fo51_1 rfl ?_))
 refine zd (ze 10 rfl rfl (zj rfl fo54_1 rfl ?_))
 refine zd (y8 (i := 2) rfl rfl rfl rfl qk qk qk qk rfl qD qF ?_)
 refine zp rfl zu rfl qN ?_
 refine zd (y8 (i := 6) rfl rfl rfl rfl qk qk qk qk rfl qD qF ?_)
 refine zh rfl sc3 rfl qC ?_
 refine zd (y8 (i := 11) rfl rfl rfl rfl qk qk qk qk rfl qD qF ?_)
 refine zh rfl sc30 rfl qC ?_
 refine zd (xg (is := [3, 7]) qk jD (yE rfl ?_ <| yE rfl ?_ <| xh) )
 ·skip
  refine zW rfl (ev1 rfl) qD qS (obytes_spec (l := p.1.1) hp32) jF ?_
  refine yK rfl qD qF ?_
  refine zy 7 rfl (yh rfl bs22 jD (zB rfl rfl rfl <| zO (out := []) rfl) (fun b10 => ?_))
  refine yU (len := 1) qP (rows := ([p.2] : List Int).map e3) (sz := 1) (by rfl) rfl (by simp) ?_
  refine yZ qP ?_
  refine yK rfl qD qF ?_
  refine zy 8 rfl (zx rfl (ev1 rfl) qD qS (bnums_spec (xs := [p.2]) jD (by simp; omega)) ?_)
  rintro _ _ _ ⟨rfl, rfl, rfl⟩
  refine zt qA qA ?_
  refine zv (t := 11) (u := S (numB p.2.toNat)) rfl (congrArg S (by simp)) ?_
  refine yK rfl qD qF ?_
  refine ze 9 rfl rfl (L.addS rfl rfl rfl qI ?_)
  refine zd (zy 12 rfl (zW rfl (ev1 rfl) qD qS (bids_spec (l := l) hn) jF ?_))
  refine zw rfl qD ?_
  refine ze 13 rfl rfl (L.addS rfl rfl rfl qI ?_)
  refine zv (t := 16) (u := S (inT p l)) rfl rfl ?_
  refine zd (ze 14 rfl rfl (z9 rfl rfl (zd (y6 qk ?_))))
  exact z4 (zi (zz rfl rfl ⟨rfl, rfl, rfl⟩ qD qF))
 ·skip
  refine yh rfl bs22 jD (zB rfl rfl rfl <| zO (out := []) rfl) (fun b10 => ?_)
  refine yU (len := 1) qP (rows := ([p.2] : List Int).map e3) (sz := 1) (by rfl) rfl (by simp) ?_
  refine yZ qP ?_
  refine yK rfl qD qF ?_
  refine zy 3 rfl (zW rfl (ev1 rfl) qD qS (obytes_spec (l := p.1.1) hp32) jF ?_)
  refine yK rfl qD qF ?_
  refine zy 8 rfl (zx rfl (ev1 rfl) qD qS (bnums_spec (xs := [p.2]) jD (by simp; omega)) ?_)
  rintro _ _ _ ⟨rfl, rfl, rfl⟩
  refine zt qA qA ?_
  refine zv (t := 11) (u := S (numB p.2.toNat)) rfl (congrArg S (by simp)) ?_
  refine yK rfl qD qF ?_
  refine ze 9 rfl rfl (L.addS rfl rfl rfl qI ?_)
  refine zd (zy 12 rfl (zW rfl (ev1 rfl) qD qS (bids_spec (l := l) hn) jF ?_))
  refine zw rfl qD ?_
  refine ze 13 rfl rfl (L.addS rfl rfl rfl qI ?_)
  refine zv (t := 16) (u := S (inT p l)) rfl rfl ?_
  refine zd (ze 14 rfl rfl (z9 rfl rfl (zd (y6 qk ?_))))
  exact z4 (zi (zz rfl rfl ⟨rfl, rfl, rfl⟩ qD qF))
theorem iname_spec {a : Option Addr} {n c : Nat} {l : List ID32} {p : Pt} (hn : n ≤ 1000000) (hp : p.2 ≤ 4611686018427387904) : Spec Tryz.prog 28 [.agg (inC p a n c).toArray] [rsl 32 a n c (l.map iC)] [] (fun v D' M' => v = .agg (iC (inN p l)).toArray ∧ D' = [] ∧ M' = []) := by
 refine zC (n := 7) Tryz.func28 ?_
 intro σ D M
 refine yH (rows := l.map iC) qM (fun hpl hpc => ?_)
 rw [List.length_map] at hpl
 have hp3 := inC_len p a n c
 have hp32 := p.1.2
 have hil := inT_len (l := l) hp jO
 have hn3 := zT (inN p l)
 refine z6 (z8 (yq rfl rfl rfl (fun b1 => ?_)))
 refine zL rfl ze38 (fun b2 => ?_)
 refine z7 (y1 (A := cl b1 54 (inC p a n c)) qP ?_)
 refine z4 (z6 (z8 (zp rfl y9 rfl qN ?_)))
 refine zW rfl (ev1 rfl) qD qS (itext_spec (l := l) hn hp) jF ?_
 refine yh rfl bs31 jD (zB rfl rfl rfl <| zO (out := []) rfl) (fun b5 => ?_)
 refine yU (len := 1) qP (rows := [inT p l].map ys) (sz := 1) (by rfl) rfl (by simp) ?_
 refine yZ qP ?_
 refine zx rfl (ev2 rfl rfl) qD qS (oidof_spec (ls := [inT p l]) (by simp; omega) (by simp)) ?_
 rintro _ _ _ ⟨rfl, rfl, rfl⟩
 refine zt qA qA ?_
 refine zv (t := 6) (u := .agg (iC (inN p l)).toArray) rfl (by unfold inN; simp only [iC, oI_val, List.flatten_cons, List.flatten_nil, List.append_nil]) ?_
 refine zE zu rfl rfl qL qO qU qW ?_
 exact z7 (z4 (zi (T.retA rfl zu rfl qN ⟨rfl, rfl, rfl⟩ qD qF)))
theorem icheck_spec {a : Option Addr} {n c : Nat} {l : List ID32} {p : Pt} (hn : n ≤ 1000000) : Spec Tryz.prog 117 [.agg (inC p a n c).toArray] [rsl 32 a n c (l.map iC)] [] (fun v D' M' => v = .int .i64 (chkI p l) ∧ D' = [] ∧ M' = []) := by
 refine zC (n := 40) Tryz.func117 ?_
 intro σ D M
 refine yH (rows := l.map iC) qM (fun hpl hpc => ?_)
 rw [List.length_map] at hpl
 have hp3 := inC_len p a n c
 have hp32 := p.1.2
 
 refine z6 (z8 (yq rfl rfl rfl (fun b1 => ?_)))
 refine z9 rfl rfl (z7 (y1 (A := cl b1 54 (inC p a n c)) qP ?_))
 refine z4 (z6 (zr (z6 (z8 (zj rfl fo54_0 rfl ?_)))))
 refine zj rfl fo51_1 rfl ?_
 refine zh rfl sc3 rfl qC ?_
 refine zQ rfl rfl rfl (z9 rfl rfl (z7 (z4 (zo rfl (fun h4 => ?_) (fun h4 => ?_)))))
 ·try simp only [dq] at h4
  exact z6 (z8 (z9 rfl rfl (z7 (z4 (zi (y3 (zD (zz rfl rfl ⟨by rw [chk_2 h4], rfl, rfl⟩ qD qF))))))))
 ·try simp only [dq] at h4
  refine z6 (z8 (zj rfl fo54_0 rfl ?_))
  refine zj rfl fo51_1 rfl ?_
  refine zh rfl sc3 rfl qC ?_
  refine yB rfl rfl rfl (z5 rfl rfl (yM (t := 14) rfl (fun h1 => ?_) (fun h1 => ?_)))
  ·try simp only [dq] at h1
   refine zg (dj := 14) (c := true) rfl rfl rfl rfl rfl jD (zg (dj := 14) (c := true) rfl rfl rfl rfl rfl jD (zg (dj := 14) (c := true) rfl rfl rfl rfl rfl jD (zg (dj := 14) (c := true) rfl rfl rfl rfl rfl jD (ye rfl rfl rfl (z9 rfl rfl (z7 (z4 (xk rfl rfl ?_))))))))
   exact z6 (z8 (z9 rfl rfl (z7 (z4 (zi (y3 (zD (zz rfl rfl ⟨by rw [chk_5 h4 jO], rfl, rfl⟩ qD qF))))))))
  ·try simp only [dq] at h1
   refine zf (dj := 14) rfl rfl rfl (zj rfl fo54_1 rfl ?_)
   refine zf (dj := 14) rfl rfl rfl (zh rfl sc30 rfl qC ?_)
   refine zf (dj := 14) rfl rfl rfl (y2 rfl zA rfl (zf (dj := 14) rfl rfl rfl (yB rfl rfl rfl (y5 rfl rfl rfl (z9 rfl rfl (z7 (z4 (zo rfl (fun h9 => ?_) (fun h9 => ?_)))))))))
   ·try simp only [dq] at h9
    exact z6 (z8 (z9 rfl rfl (z7 (z4 (zi (y3 (zD (zz rfl rfl ⟨by rw [chk_5 h4 jO], rfl, rfl⟩ qD qF))))))))
   ·try simp only [dq] at h9
    refine zm (zI (z4 (z6 (z6 (z8 (z9 rfl rfl (z7 (z4 (zr (zX (fun K' D' M' μ => ∃ (i : Nat), ((1 ≤ i ∧ (i ≤ n ∨ i = 1)) ∧ rsR l i) ∧ K' = [(3, .int .i64 (i : Int))] ∧ D' = [] ∧ M' = [] ∧ μ = n - i) (.c 1 rfl <| za _) (⟨1, ⟨by omega, fun j hj => by omega⟩, rfl, rfl, rfl, rfl⟩) (.c 3 rfl <| za _) qD qS ?_))))))))))
    rintro K1 D1 M1 m1 ⟨i, ⟨hi, hr⟩, rfl, rfl, rfl, rfl⟩
    refine zF qA qA qA ?_
    refine z6 (z6 (z8 (z5 rfl rfl (zj rfl fo54_1 rfl ?_))))
    refine zh rfl sc30 rfl qC ?_
    refine y2 rfl zA rfl (zQ rfl rfl rfl (z7 (z4 (zo rfl (fun h24 => ?_) (fun h24 => ?_)))))
    ·try simp only [dq] at h24
     refine zm (z4 (z6 (zr (z6 ?_))))
     have hg0 : l[i]? = some (gd l (i)) := zJ jO
     have hgr0 : (l.map iC)[i]? = some (iC (gd l (i))) := zU hg0
     have hw0 := zT (gd l (i))
     have hv0 := (gd l (i)).2
     have hg1 : l[i - 1]? = some (gd l (i - 1)) := zJ jO
     have hgr1 : (l.map iC)[i - 1]? = some (iC (gd l (i - 1))) := zU hg1
     have hw1 := zT (gd l (i - 1))
     have hv1 := (gd l (i - 1)).2
     refine T.rslAddr (rows := l.map iC) qM (fun e => by have := congrArg List.length e; rw [List.length_map] at this; simp only [List.length_nil] at this; omega) (fun b o ha => ?_)
     subst ha
     refine yC qk qk (zj rfl fo54_1 rfl ?_)
     refine zh rfl sc30 rfl qC ?_
     refine z5 rfl rfl (y7 rfl rfl rfl jO ?_)
     refine L.idxR (i := i - 1) rfl zA zN rfl rfl qM jR qI qG ?_
     refine zp rfl zu rfl (x8 qM (hw1)) ?_
     refine zj rfl fo54_1 rfl ?_
     refine zh rfl sc30 rfl qC ?_
     refine z5 rfl rfl (L.idxR (i := i) rfl zA zN rfl rfl qM jR qI qG ?_)
     refine zp rfl zu rfl (x8 qM (hw0)) ?_
     refine zW rfl (ev2 rfl rfl) qD qS (ocmp_spec (x := gd l (i - 1)) (y := gd l i)) jF ?_
     refine x6 rfl rfl rfl (yA (z4 (zo rfl (fun h39 => ?_) (fun h39 => ?_))))
     ·try simp only [dq] at h39
      exact z6 (z8 (z9 rfl rfl (z7 (z4 (zi (y3 (zD (zD (y3 (zD (zz rfl rfl ⟨by rw [chk_r h4 jO jO h39], rfl, rfl⟩ qD qF)))))))))))
     ·try simp only [dq] at h39
      refine zm (zI (z4 (z8 (z5 rfl rfl (zH rfl rfl rfl jO ?_)))))
      exact z9 rfl rfl (z7 (z4 (zM ⟨i + 1, ⟨by omega, rsR_s hi.1 hr h39⟩, rfl, rfl, rfl, rfl⟩ qI (.c 3 rfl <| za _) (.c 1 rfl <| za _) qD qD qF)))
    ·try simp only [dq] at h24
     exact zR (zq (zq (zS (z4 (z6 (z8 (z9 rfl rfl (z7 (z4 (zi (zz rfl rfl ⟨by rw [chk_0 h4 jO (fun j hj => hr j jO)], rfl, rfl⟩ qD qF)))))))))))
end Cv
