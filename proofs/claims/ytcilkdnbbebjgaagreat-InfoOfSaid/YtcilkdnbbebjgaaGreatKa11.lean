/-
  The walks: names.
-/
import Derived.Test.YtcilkdnbbebjgaaGreatIJ11
import Derived.Test.YtcilkdnbbebjgaaGreatCvLg
import Derived.Test.YtcilkdnbbebjgaaGreatPP11
import Derived.Test.YtcilkdnbbebjgaaGreatProg
import Derived.KernelRfl
set_option linter.unusedVariables false
set_option linter.unusedSimpArgs false
set_option linter.unusedSectionVars false
set_option maxRecDepth 10000
namespace Cv
open Go Go.Proofs
/-! ## names in a row, each once -/
theorem tk_tail {α : Type} {l r : List α} {i : Nat} (h : i ≤ l.length) : (l.take i ++ r).take i = l.take i := by
  rw [List.take_append_of_le_length (by simp; omega), List.take_take, Nat.min_self]
def cfI (x y : ID32) : Int := cmpB x.1 y.1
theorem cfI_swo : SWO cfI where
  asym x y h k := by
    unfold cfI at h k
    have := cmpB_neg x.1 y.1
    omega
  ntrans x y z h k l := by
    unfold cfI at h k l
    have n1 := cmpB_neg y.1 x.1
    have n2 := cmpB_neg z.1 y.1
    have n3 := cmpB_neg x.1 z.1
    rcases Int.lt_or_le (cmpB y.1 x.1) 0 with a | a
    · exact k (cmpB_trans a l)
    · have e1 : cmpB y.1 x.1 = 0 := by omega
      rw [cmpB_eq e1] at k
      exact k l
theorem cfI_irr (x : ID32) : ¬ cfI x x < 0 := by unfold cfI; rw [cmpB_self]; omega
theorem cfI_zero {x y : ID32} (h1 : ¬ cfI x y < 0) (h2 : ¬ cfI y x < 0) : x = y := by
  unfold cfI at h1 h2
  have := cmpB_neg x.1 y.1
  exact Subtype.ext (cmpB_eq (by omega))
def ddS (acc : List ID32) (x : ID32) : List ID32 := if acc.getLast? = some x then acc else acc ++ [x]
def ddp (l : List ID32) : List ID32 := l.foldl ddS []
theorem ddp_s {xs : List ID32} {j : Nat} {x : ID32} (h : xs[j]? = some x) : ddp (xs.take (j + 1)) = ddS (ddp (xs.take j)) x := by
  unfold ddp; rw [List.take_add_one, h, List.foldl_append]; rfl
theorem ddp_last {xs : List ID32} {j : Nat} {x : ID32} (h : xs[j]? = some x) : (ddp (xs.take (j + 1))).getLast? = some x := by
  rw [ddp_s h]; unfold ddS
  split
  · assumption
  · simp
theorem ddp_same {xs : List ID32} {j : Nat} {x : ID32} (hj : 1 ≤ j) (h : xs[j]? = some x) (k : xs[j - 1]? = some x) : ddp (xs.take (j + 1)) = ddp (xs.take j) := by
  have := ddp_last k
  rw [Nat.sub_add_cancel hj] at this
  rw [ddp_s h]; unfold ddS; rw [if_pos this]
theorem ddp_diff {xs : List ID32} {j : Nat} {x y : ID32} (hj : 1 ≤ j) (h : xs[j]? = some x) (k : xs[j - 1]? = some y) (e : x ≠ y) : ddp (xs.take (j + 1)) = ddp (xs.take j) ++ [x] := by
  have := ddp_last k
  rw [Nat.sub_add_cancel hj] at this
  rw [ddp_s h]; unfold ddS; rw [if_neg (by rw [this]; intro q; exact e (Option.some.inj q).symm)]
theorem ddp_short {xs : List ID32} (h : xs.length < 2) : ddp xs = xs := by
  match xs, h with
  | [], _ => rfl
  | [x], _ => rfl
  | _ :: _ :: _, h => simp only [List.length_cons] at h; omega
theorem ddp_one {xs : List ID32} (h : 1 ≤ xs.length) : ddp (xs.take 1) = xs.take 1 := ddp_short (by rw [List.length_take]; omega)
theorem ddp_next {xs : List ID32} {k : Nat} {x y : ID32} (hk : 1 ≤ k) (h : xs[k]? = some x) (h1 : xs[k - 1]? = some y) (e : x ≠ y) (hd : ddp (xs.take k) = xs.take k) : ddp (xs.take (k + 1)) = xs.take (k + 1) := by
  rw [ddp_diff hk h h1 e, hd, List.take_add_one, h]; rfl
structure CmpI (xs ys : List ID32) (m j : Nat) : Prop where
  len : ys.length = xs.length
  le : 1 ≤ m ∧ m + 1 ≤ j ∧ j ≤ xs.length
  pre : ys.take m = ddp (xs.take j)
  suf : ∀ i, j ≤ i + 1 → ys[i]? = xs[i]?
theorem CmpI.start {xs : List ID32} {k : Nat} {x : ID32} (hk : 1 ≤ k) (h : xs[k]? = some x) (h1 : xs[k - 1]? = some x) (hd : ddp (xs.take k) = xs.take k) : CmpI xs xs k (k + 1) :=
  ⟨rfl, ⟨hk, Nat.le_refl _, (List.getElem?_eq_some_iff.1 h).1⟩, by rw [ddp_same hk h h1, hd], fun _ _ => rfl⟩
theorem CmpI.same {xs ys : List ID32} {m j : Nat} (h : CmpI xs ys m j) {x : ID32} (hj : ys[j]? = some x) (hj1 : ys[j - 1]? = some x) : CmpI xs ys m (j + 1) := by
  obtain ⟨h1, ⟨h2, h3, h4⟩, h5, h6⟩ := h
  rw [h6 j (by omega)] at hj
  rw [h6 (j - 1) (by omega)] at hj1
  exact ⟨h1, ⟨h2, by omega, (List.getElem?_eq_some_iff.1 hj).1⟩, by rw [ddp_same (by omega) hj hj1, h5], fun i hi => h6 i (by omega)⟩
theorem CmpI.diff {xs ys : List ID32} {m j : Nat} (h : CmpI xs ys m j) {x y : ID32} (hj : ys[j]? = some x) (hj1 : ys[j - 1]? = some y) (e : x ≠ y) : CmpI xs (ys.set m x) (m + 1) (j + 1) := by
  obtain ⟨h1, ⟨h2, h3, h4⟩, h5, h6⟩ := h
  rw [h6 j (by omega)] at hj
  rw [h6 (j - 1) (by omega)] at hj1
  refine ⟨by rw [List.length_set, h1], ⟨by omega, by omega, (List.getElem?_eq_some_iff.1 hj).1⟩, ?_, fun i hi => by rw [List.getElem?_set_ne (by omega)]; exact h6 i (by omega)⟩
  rw [ddp_diff (by omega) hj hj1 e, ← h5, List.take_add_one, List.take_set_of_le (Nat.le_refl _), List.getElem?_set_self (by omega)]; rfl
theorem CmpI.fin {xs ys : List ID32} {m : Nat} (h : CmpI xs ys m xs.length) : ys.take m = ddp xs := by
  rw [h.pre, List.take_length]
structure NamesF (xs l : List ID32) : Prop where
  asc : l.Pairwise (fun x y => x.1 < y.1)
  mem : ∀ z, z ∈ l ↔ z ∈ xs
theorem ddp_asc {xs : List ID32} (h : SrtP cfI xs 0 xs.length) : ∀ j, j ≤ xs.length → NamesF (xs.take j) (ddp (xs.take j))
  | 0, _ => ⟨List.Pairwise.nil, fun z => Iff.rfl⟩
  | j + 1, hj => by
    obtain ⟨h1, h2⟩ := ddp_asc h j (by omega)
    have hg : xs[j]? = some (gd xs j) := gd_get (by omega)
    by_cases hl : (ddp (xs.take j)).getLast? = some (gd xs j)
    · have e : ddp (xs.take (j + 1)) = ddp (xs.take j) := by rw [ddp_s hg]; unfold ddS; rw [if_pos hl]
      rw [e]
      refine ⟨h1, fun z => ?_⟩
      rw [h2, List.take_add_one, hg, List.mem_append]
      constructor
      · exact Or.inl
      · rintro (a | a)
        · exact a
        · have : z = gd xs j := by simpa using a
          rw [this]; exact (h2 _).1 (List.mem_of_getLast? hl)
    · have e : ddp (xs.take (j + 1)) = ddp (xs.take j) ++ [gd xs j] := by rw [ddp_s hg]; unfold ddS; rw [if_neg hl]
      rw [e]
      refine ⟨?_, fun z => ?_⟩
      · rw [List.pairwise_append]
        refine ⟨h1, List.pairwise_singleton _ _, fun z hz x hx => ?_⟩
        have hx : x = gd xs j := by simpa using hx
        subst hx
        obtain ⟨p, hp, hpe⟩ := List.mem_iff_getElem.1 ((h2 z).1 hz)
        have hpj : p < j := by rw [List.length_take] at hp; omega
        have hz' : z = gd xs p := by
          have hq : xs[p]? = some (gd xs p) := gd_get (by omega)
          rw [List.getElem_take] at hpe
          rw [List.getElem?_eq_getElem (by omega)] at hq
          rw [← hpe]; exact Option.some.inj hq
        have hn := h p j (Nat.zero_le _) hpj (by omega)
        unfold NL at hn
        rw [← hz'] at hn
        refine cmpB_lt.1 (Decidable.byContradiction fun hc => hl ?_)
        have hze : z = gd xs j := cfI_zero hc hn
        have hk : xs[j - 1]? = some (gd xs (j - 1)) := gd_get (by omega)
        have hk2 := ddp_last hk
        rw [Nat.sub_add_cancel (by omega)] at hk2
        rw [hk2]
        have a1 := h (j - 1) j (Nat.zero_le _) (by omega) (by omega)
        unfold NL at a1
        have a2 : ¬ cfI (gd xs (j - 1)) (gd xs j) < 0 := by
          rw [← hze, hz']
          rcases Nat.lt_or_ge p (j - 1) with q | q
          · exact h p (j - 1) (Nat.zero_le _) q (by omega)
          · have : p = j - 1 := by omega
            subst this; exact cfI_irr _
        rw [cfI_zero a2 a1]
      · rw [List.mem_append, h2, List.take_add_one, hg, List.mem_append]; rfl
theorem ddp_names {xs ys : List ID32} (hp : ys.Perm xs) (h : SrtP cfI ys 0 ys.length) : NamesF xs (ddp ys) := by
  have := ddp_asc h ys.length (Nat.le_refl _)
  rw [List.take_length] at this
  exact ⟨this.asc, fun z => (this.mem z).trans hp.mem_iff⟩
theorem bs27 : Bs Tryz.prog 27 31 32 (Value.int .u8 0 :: Value.int .u8 0 :: Value.int .u8 0 :: Value.int .u8 0 :: Value.int .u8 0 :: Value.int .u8 0 :: Value.int .u8 0 :: Value.int .u8 0 :: Value.int .u8 0 :: Value.int .u8 0 :: Value.int .u8 0 :: Value.int .u8 0 :: Value.int .u8 0 :: Value.int .u8 0 :: Value.int .u8 0 :: Value.int .u8 0 :: Value.int .u8 0 :: Value.int .u8 0 :: Value.int .u8 0 :: Value.int .u8 0 :: Value.int .u8 0 :: Value.int .u8 0 :: Value.int .u8 0 :: Value.int .u8 0 :: Value.int .u8 0 :: Value.int .u8 0 :: Value.int .u8 0 :: Value.int .u8 0 :: Value.int .u8 0 :: Value.int .u8 0 :: Value.int .u8 0 :: Value.int .u8 0 :: []) := bs_of Tryz.underlying27 (fun w => by kernel_rfl) zv31 rfl rfl (by decide)
theorem el31 : El Tryz.prog 31 32 32 := ⟨_, _, rfl, rfl, by kernel_rfl, by kernel_rfl, by kernel_rfl⟩
theorem bcx : IsX Tryz.prog 127 Extern.BytealgCompare.compare := IsX.of Tryz.func127 qk qk qk qk
set_option maxHeartbeats 400000 in
theorem bcmp_spec {a b : Option Addr} {la ca lb cb : Nat} {p q : List UInt8}  : Spec Tryz.prog 98 [.slice a la ca, .slice b lb cb] [rsl 1 a la ca (p.map yr), rsl 1 b lb cb (q.map yr)] [] (fun v D' M' => v = .int .i64 (cmpB p q) ∧ D' = [] ∧ M' = []) := by
 refine Spec.intro (n := 8) Tryz.func98 rfl rfl (by decide) (Nat.le_of_ble_eq_true rfl) rfl (fun _ => qA) (fun _ => qA) ?_
 intro σ D M
 refine T.seq (T.region ?_)
 refine L.assign rfl rfl ?_
 refine L.nil ?_
 refine T.thenN (T.seq (T.region ?_))
 refine L.move rfl rfl ?_
 refine L.move rfl rfl ?_
 refine L.cmpSl bcx rfl (evs.cons rfl <| evs.cons rfl <| evs.nil) qM qM ?_
 refine L.assign rfl rfl ?_
 refine L.nil ?_
 refine T.thenN (T.ret ?_)
 exact T.ret1 rfl rfl ⟨rfl, rfl, rfl⟩ qD qF
set_option maxHeartbeats 400000 in
theorem ocmp_spec {x y : ID32}  : Spec Tryz.prog 59 [.agg (iC x).toArray, .agg (iC y).toArray] [] [] (fun v D' M' => v = .int .i64 (cfI x y) ∧ D' = [] ∧ M' = []) := by
 refine Spec.intro (n := 8) Tryz.func59 rfl rfl (by decide) (Nat.le_of_ble_eq_true rfl) rfl (fun _ => qA) (fun _ => qA) ?_
 intro σ D M
 have hx := x.2
 have hy := y.2
 have hx3 := iC_len x
 have hy3 := iC_len y
 refine T.seq (T.region ?_)
 refine L.box rfl rfl rfl (fun b2 => ?_)
 refine L.box rfl rfl rfl (fun b3 => ?_)
 refine L.assign rfl rfl ?_
 refine L.nil ?_
 refine T.toOwn (b := b2) (len := 32) qP (rows := x.1.map yr) (sz := 1) (yr_flat x.1) (by simp [hx]) (by simp) ?_
 refine T.ownRsl qP ?_
 refine T.toOwn (b := b3) (len := 32) qP (rows := y.1.map yr) (sz := 1) (yr_flat y.1) (by simp [hy]) (by simp) ?_
 refine T.ownRsl qP ?_
 refine T.thenN (T.seq ?_)
 refine T.regionQ qk qk ?_
 refine L.sliceArr rfl Tryz.underlying31 sz5 rfl Bd.no Bd.no qI qI ?_
 refine L.known (t := 5) (u := .slice (some ⟨b2, 0, none⟩) 32 32) rfl (by first | rfl | simp [cutA, Addr.add]) ?_
 refine L.sliceArr rfl Tryz.underlying31 sz5 rfl Bd.no Bd.no qI qI ?_
 refine L.known (t := 6) (u := .slice (some ⟨b3, 0, none⟩) 32 32) rfl (by first | rfl | simp [cutA, Addr.add]) ?_
 refine L.callF rfl (evs.cons rfl <| evs.cons rfl <| evs.nil) qD qS (bcmp_spec (p := x.1) (q := y.1)) (by rintro u D1 M1 ⟨rfl, rfl, rfl⟩; exact ⟨rfl, _, qA, qF⟩) ?_
 refine L.assign rfl rfl ?_
 refine L.nilQ ?_
 refine T.thenN (T.ret ?_)
 exact T.ret1 rfl rfl ⟨rfl, rfl, rfl⟩ qD qF
set_option maxHeartbeats 400000 in
theorem clone_spec {a : Option Addr} {len cap : Nat} {xs : List ID32} (hb : len ≤ 1000000) : Spec Tryz.prog 75 [.slice a len cap] [rsl 32 a len cap (xs.map iC)] [] (fun v D' M' => ∃ (a' : Option Addr) (len' cap' : Nat), v = .slice a' len' cap' ∧ (len' = len) ∧ D' = [] ∧ M' = [own 32 31 a' len' cap' ((xs).map iC)]) := by
 refine Spec.intro (n := 8) Tryz.func75 rfl rfl (by decide) (Nat.le_of_ble_eq_true rfl) rfl (fun _ => qA) (fun _ => qA) ?_
 intro σ D M
 refine T.rslLen2 qM (fun hl hc => ?_)
 rw [List.length_map] at hl
 refine T.seq (T.region ?_)
 refine L.assign rfl rfl ?_
 refine L.nil ?_
 refine T.thenN (T.seq (T.seq (T.region ?_)))
 refine L.move rfl rfl ?_
 refine L.eqlSl rfl Tryz.underlying27 rfl rfl ?_
 refine L.nil ?_
 refine T.thenN ?_
 refine T.cond rfl (fun h4 => ?_) (fun h4 => ?_)
 ·try simp only [dq] at h4
  obtain rfl : a = none := by simpa using h4
  refine T.rslNil qM (fun h0 => ?_)
  obtain rfl : xs = [] := by cases xs with
   | nil => rfl
   | cons x l => simp at h0
  obtain rfl : len = 0 := by simpa using hl.symm
  refine T.newOwn (sz := 32) (e := 31) ?_
  refine T.eqv qP (show own 32 31 none 0 0 [] = own 32 31 none 0 0 ((([] : List ID32)).map iC) from rfl) ?_
  refine T.seq (T.region ?_)
  refine L.assign rfl rfl ?_
  refine L.nil ?_
  refine T.thenN (T.ret ?_)
  refine T.thenR ?_
  exact T.ret1 rfl rfl ⟨_, _, _, rfl, rfl, rfl, rfl⟩ qD qF
 ·try simp only [dq] at h4
  refine T.skip (T.thenN (T.seq (T.region ?_)))
  refine L.buildSlice rfl bs27 (by decide) (BP.doneE (out := []) rfl) (fun b5 => ?_)
  refine L.toOwn (len := 0) qP (rows := []) (sz := 32) (by rfl) rfl (by simp) ?_
  refine L.move rfl rfl ?_
  refine L.appendR rfl Tryz.underlying27 Tryz.underlying27 el31 rfl rfl qP (rd_D qM) one_ids qI qI (fun a7 c7 => ?_)
  refine L.assign rfl rfl ?_
  refine L.nil ?_
  simp only [Nat.zero_add, List.nil_append]
  refine T.thenN (T.ret ?_)
  exact T.ret1 rfl rfl ⟨_, _, _, rfl, by simp, rfl, rfl⟩ qD qF
set_option maxHeartbeats 400000 in
theorem compact_spec {a : Option Addr} {len cap : Nat} {xs : List ID32} (hb : len ≤ 1000000) : Spec Tryz.prog 77 [.slice a len cap] [] [own 32 31 a len cap ((xs).map iC)] (fun v D' M' => ∃ (a' : Option Addr) (len' cap' : Nat), v = .slice a' len' cap' ∧ ((ddp xs).length = len') ∧ D' = [] ∧ M' = [own 32 31 a' len' cap' ((ddp xs).map iC)]) := by
 refine Spec.intro (n := 61) Tryz.func77 rfl rfl (by decide) (Nat.le_of_ble_eq_true rfl) rfl (fun _ => qA) (fun _ => qA) ?_
 intro σ D M
 refine T.ownLen qM (fun hl hc => ?_)
 rw [List.length_map] at hl
 refine T.seq (T.region ?_)
 refine L.assign rfl rfl ?_
 refine L.nil ?_
 refine T.thenN (T.seq (T.seq (T.region ?_)))
 refine L.move rfl rfl ?_
 refine L.lenSl rfl Tryz.underlying27 rfl ?_
 refine L.ltI rfl rfl rfl ?_
 refine L.nil ?_
 refine T.thenN ?_
 refine T.cond rfl (fun h8 => ?_) (fun h8 => ?_)
 ·try simp only [dq] at h8
  have hds := ddp_short (xs := xs) (by omega)
  refine T.ownEq a ((ddp xs).map iC) qP (by rw [hds]) ?_
  refine T.seq (T.region ?_)
  refine L.move rfl rfl ?_
  refine L.assign rfl rfl ?_
  refine L.nil ?_
  refine T.thenN (T.ret ?_)
  refine T.thenR ?_
  exact T.ret1 rfl rfl ⟨_, _, _, rfl, by rw [hds]; exact hl, rfl, rfl⟩ qD qF
 ·try simp only [dq] at h8
  refine T.ownNe qM (by omega) (fun b o ha => ?_)
  subst ha
  refine T.skip (T.thenN (T.seq (T.seq (T.region ?_))))
  refine L.assign rfl rfl ?_
  refine L.nil ?_
  refine T.thenN (T.block ?_)
  refine T.loop (fun K' D' M' μ => ∃ (k : Nat), ((1 ≤ k ∧ k ≤ len) ∧ ddp (xs.take k) = xs.take k) ∧ K' = [(3, .int .i64 (k : Int))] ∧ D' = [] ∧ M' = [own 32 31 (some ⟨b, o, none⟩) len cap ((xs).map iC)] ∧ μ = len - k) (.cons (t := 0) rfl <| SubK.nil _) (⟨1, ⟨by omega, ddp_one (by omega)⟩, rfl, rfl, rfl, rfl⟩) (.cons (t := 3) rfl <| SubK.nil _) qD qS ?_
  rintro K1 D1 M1 m1 ⟨k, ⟨hk, hd⟩, rfl, rfl, rfl, rfl⟩
  refine T.norm3 qA qA qA ?_
  refine T.seq (T.seq (T.region ?_))
  refine L.move rfl rfl ?_
  refine L.move rfl rfl ?_
  refine L.lenSl rfl Tryz.underlying27 rfl ?_
  refine L.ltI rfl rfl rfl ?_
  refine L.nil ?_
  refine T.thenN ?_
  refine T.cond rfl (fun h13 => ?_) (fun h13 => ?_)
  ·try simp only [dq] at h13
   refine T.skip (T.thenN (T.seq (T.block (T.seq ?_))))
   have hg0 : xs[k]? = some (gd xs (k)) := gd_get (by omega)
   have hw0 := iC_len (gd xs (k))
   have hv0 := (gd xs (k)).2
   have hg1 : xs[k - 1]? = some (gd xs (k - 1)) := gd_get (by omega)
   have hw1 := iC_len (gd xs (k - 1))
   have hv1 := (gd xs (k - 1)).2
   refine T.regionQ qk qk ?_
   refine L.move rfl rfl ?_
   refine L.move rfl rfl ?_
   refine L.idxG (i := k) rfl Tryz.underlying27 sz31 rfl rfl (by first | rfl | omega | (simp; done)) qI ?_
   refine L.loadA rfl ag31 rfl (CellsN.ofOwn qM (map_get hg0) hw0) ?_
   refine L.move rfl rfl ?_
   refine L.move rfl rfl ?_
   refine L.subN rfl rfl rfl (by omega) ?_
   refine L.idxG (i := k - 1) rfl Tryz.underlying27 sz31 rfl rfl (by first | rfl | omega | (simp; done)) qI ?_
   refine L.loadA rfl ag31 rfl (CellsN.ofOwn qM (map_get hg1) hw1) ?_
   refine L.eqlArrI qk rfl Tryz.underlying31 Tryz.underlying5 sc5 rfl rfl qL qL ?_
   refine L.nilQ ?_
   refine T.thenN ?_
   refine T.cond rfl (fun h25 => ?_) (fun h25 => ?_)
   ·try simp only [dq] at h25
    have h25 := Subtype.ext h25
    have hg0b := hg0
    rw [h25] at hg0b
    refine T.seq (T.region ?_)
    refine L.move rfl rfl ?_
    refine L.move rfl rfl ?_
    refine L.sliceSl rfl Tryz.underlying27 sz31 rfl (Bd.at (x := k) rfl (by first | rfl | omega | (simp; done))) Bd.no qI qI ?_
    refine L.known (t := 28) (u := .slice (some ⟨b, o + k * 32, none⟩) (len - k) (cap - k)) rfl (by unfold cutA; rw [if_neg (by omega)]; simp [Addr.add]; omega) ?_
    refine L.assign rfl rfl ?_
    refine L.nil ?_
    refine T.thenN (T.seq (T.seq (T.region ?_)))
    refine L.assign rfl rfl ?_
    refine L.nil ?_
    refine T.thenN (T.block ?_)
    refine T.loop (fun K' D' M' μ => ∃ (m d j : Nat) (ys : List ID32), (CmpI xs ys m j ∧ j = k + d ∧ 1 ≤ d) ∧ K' = [(3, .int .i64 (m : Int)), (5, .int .i64 (d : Int)), (4, .slice (some ⟨b, o + k * 32, none⟩) (len - k) (cap - k))] ∧ D' = [] ∧ M' = [own 32 31 (some ⟨b, o, none⟩) len cap ((ys).map iC)] ∧ μ = len - j) (.cons (t := 0) rfl <| .cons (t := 4) rfl <| SubK.nil _) (⟨k, 1, k + 1, xs, ⟨CmpI.start hk.1 hg0b hg1 hd, rfl, Nat.le_refl _⟩, rfl, rfl, rfl, rfl⟩) (.cons (t := 3) rfl <| .cons (t := 5) rfl <| .cons (t := 4) rfl <| SubK.nil _) qD qS ?_
    rintro K1 D1 M1 m1 ⟨m, d, j, ys, ⟨hI, hkj, hd1⟩, rfl, rfl, rfl, rfl⟩
    refine T.norm3 qA qA qA ?_
    have hyl := hI.len
    have hle := hI.le
    refine T.seq (T.seq (T.region ?_))
    refine L.move rfl rfl ?_
    refine L.move rfl rfl ?_
    refine L.lenSl rfl Tryz.underlying27 rfl ?_
    refine L.ltI rfl rfl rfl ?_
    refine L.nil ?_
    refine T.thenN ?_
    refine T.cond rfl (fun h32 => ?_) (fun h32 => ?_)
    ·try simp only [dq] at h32
     refine T.skip (T.thenN (T.seq (T.block (T.seq ?_))))
     have hg0 : ys[j]? = some (gd ys (j)) := gd_get (by omega)
     have hw0 := iC_len (gd ys (j))
     have hv0 := (gd ys (j)).2
     have hg1 : ys[j - 1]? = some (gd ys (j - 1)) := gd_get (by omega)
     have hw1 := iC_len (gd ys (j - 1))
     have hv1 := (gd ys (j - 1)).2
     refine T.regionQ qk qk ?_
     refine L.move rfl rfl ?_
     refine L.move rfl rfl ?_
     refine L.idxG (i := d) rfl Tryz.underlying27 sz31 rfl rfl (by first | rfl | omega | (simp; done)) qI ?_
     refine L.known (t := 37) (u := .pointer (some ⟨b, o + (j) * 32, none⟩)) rfl (congrArg (fun q => Value.pointer (some ⟨b, q, none⟩)) (by omega)) ?_
     refine L.loadA rfl ag31 rfl (CellsN.ofOwn qM (map_get hg0) hw0) ?_
     refine L.move rfl rfl ?_
     refine L.move rfl rfl ?_
     refine L.subN rfl rfl rfl (by omega) ?_
     refine L.idxG (i := d - 1) rfl Tryz.underlying27 sz31 rfl rfl (by first | rfl | omega | (simp; done)) qI ?_
     refine L.known (t := 42) (u := .pointer (some ⟨b, o + (j - 1) * 32, none⟩)) rfl (congrArg (fun q => Value.pointer (some ⟨b, q, none⟩)) (by omega)) ?_
     refine L.loadA rfl ag31 rfl (CellsN.ofOwn qM (map_get hg1) hw1) ?_
     refine L.neqArrI qk rfl Tryz.underlying31 Tryz.underlying5 sc5 rfl rfl qL qL ?_
     refine L.nilQ ?_
     refine T.thenN ?_
     refine T.cond rfl (fun h44 => ?_) (fun h44 => ?_)
     ·try simp only [dq] at h44
      have h44 : gd ys j ≠ gd ys (j - 1) := fun e => h44 (by rw [e])
      refine T.seq ?_
      have hg0 : ys[j]? = some (gd ys (j)) := gd_get (by omega)
      have hw0 := iC_len (gd ys (j))
      have hv0 := (gd ys (j)).2
      refine T.region ?_
      refine L.move rfl rfl ?_
      refine L.move rfl rfl ?_
      refine L.move rfl rfl ?_
      refine L.move rfl rfl ?_
      refine L.idxG (i := d) rfl Tryz.underlying27 sz31 rfl rfl (by first | rfl | omega | (simp; done)) qI ?_
      refine L.known (t := 49) (u := .pointer (some ⟨b, o + (j) * 32, none⟩)) rfl (congrArg (fun q => Value.pointer (some ⟨b, q, none⟩)) (by omega)) ?_
      refine L.loadA rfl ag31 rfl (CellsN.ofOwn qM (map_get hg0) hw0) ?_
      refine L.idxG (i := m) rfl Tryz.underlying27 sz31 rfl rfl (by first | rfl | omega | (simp; done)) qI ?_
      refine L.storeOA (m) ag31 rfl (by first | rfl | omega | (simp; done)) rfl qL qO qP qI ?_
      refine L.nil ?_
      refine T.thenN (T.region ?_)
      refine L.move rfl rfl ?_
      refine L.addN rfl rfl rfl (by omega) ?_
      refine L.assign rfl rfl ?_
      refine L.nil ?_
      refine T.blkN (T.thenN (T.region ?_))
      refine L.move rfl rfl ?_
      refine L.addN rfl rfl rfl (by omega) ?_
      refine L.assign rfl rfl ?_
      refine L.nil ?_
      refine T.thenN ?_
      refine T.ownEq _ ((ys.set m (gd ys j)).map iC) qP (by rw [List.map_set]) ?_
      exact T.back ⟨m + 1, d + 1, j + 1, ys.set m (gd ys j), ⟨hI.diff hg0 hg1 h44, by omega, by omega⟩, rfl, rfl, rfl, rfl⟩ qI (.cons (t := 3) rfl <| .cons (t := 5) rfl <| .cons (t := 4) rfl <| SubK.nil _) (.cons (t := 0) rfl <| .cons (t := 4) rfl <| SubK.nil _) qD qD qF
     ·try simp only [dq] at h44
      have h44 : gd ys j = gd ys (j - 1) := Subtype.ext (by simpa using h44)
      have hg0b := hg0
      rw [h44] at hg0b
      refine T.skip (T.blkN (T.thenN (T.region ?_)))
      refine L.move rfl rfl ?_
      refine L.addN rfl rfl rfl (by omega) ?_
      refine L.assign rfl rfl ?_
      refine L.nil ?_
      refine T.thenN ?_
      exact T.back ⟨m, d + 1, j + 1, ys, ⟨hI.same hg0b hg1, by omega, by omega⟩, rfl, rfl, rfl, rfl⟩ qI (.cons (t := 3) rfl <| .cons (t := 5) rfl <| .cons (t := 4) rfl <| SubK.nil _) (.cons (t := 0) rfl <| .cons (t := 4) rfl <| SubK.nil _) qD qD qF
    ·try simp only [dq] at h32
     obtain hjl : j = xs.length := by omega
     rw [hjl] at hI
     subst hl
     have hfe := hI.fin
     refine T.exit (T.thenX (T.thenX (T.blkX (T.thenN (T.seq (T.region ?_))))))
     refine L.move rfl rfl ?_
     refine L.move rfl rfl ?_
     refine L.sliceSl rfl Tryz.underlying27 sz31 rfl (Bd.at (x := m) rfl (by first | rfl | omega | (simp; done))) Bd.no qI qI ?_
     refine L.clearO (i := m) (sz := 32) Tryz.underlying27 zv31 rfl rfl qO rfl qP qI qI ?_
     refine L.nil ?_
     refine T.thenN (T.seq (T.region ?_))
     refine L.move rfl rfl ?_
     refine L.move rfl rfl ?_
     refine L.sliceTo rfl Tryz.underlying27 sz31 rfl (Bd.at (x := m) rfl (by first | rfl | omega | (simp; done))) qI ?_
     refine L.assign rfl rfl ?_
     refine L.nil ?_
     refine T.ownTo (h := m) qP (by omega) ?_
     refine T.ownEq _ ((ddp xs).map iC) qP (by rw [tk_tail (by simp; omega), ← List.map_take, hfe]) ?_
     refine T.thenN (T.ret (T.blkR ?_))
     refine T.thenR ?_
     refine T.thenR ?_
     refine T.blkR ?_
     refine T.thenR ?_
     exact T.ret1 rfl rfl ⟨_, _, _, rfl, by rw [← hfe, List.length_take]; omega, rfl, rfl⟩ qD qF
   ·try simp only [dq] at h25
    have h25 : gd xs k ≠ gd xs (k - 1) := fun e => h25 (by rw [e])
    refine T.skip (T.blkN (T.thenN (T.region ?_)))
    refine L.move rfl rfl ?_
    refine L.addN rfl rfl rfl (by omega) ?_
    refine L.assign rfl rfl ?_
    refine L.nil ?_
    refine T.thenN ?_
    exact T.back ⟨k + 1, ⟨by omega, ddp_next hk.1 hg0 hg1 h25 hd⟩, rfl, rfl, rfl, rfl⟩ qI (.cons (t := 3) rfl <| SubK.nil _) (.cons (t := 0) rfl <| SubK.nil _) qD qD qF
  ·try simp only [dq] at h13
   obtain rfl : k = len := by omega
   rw [List.take_of_length_le (by omega)] at hd
   refine T.ownEq _ ((ddp xs).map iC) qP (by rw [hd]) ?_
   refine T.exit (T.thenX (T.thenX (T.blkX (T.thenN (T.seq (T.region ?_))))))
   refine L.move rfl rfl ?_
   refine L.assign rfl rfl ?_
   refine L.nil ?_
   refine T.thenN (T.ret ?_)
   exact T.ret1 rfl rfl ⟨_, _, _, rfl, by rw [hd]; exact hl, rfl, rfl⟩ qD qF
set_option maxHeartbeats 400000 in
theorem sorted_spec {a : Option Addr} {len cap : Nat} {xs : List ID32} (hb : len ≤ 60000) : Spec Tryz.prog 37 [.slice a len cap] [rsl 32 a len cap (xs.map iC)] [] (fun v D' M' => ∃ (a' : Option Addr) (len' cap' : Nat) (l : List ID32), v = .slice a' len' cap' ∧ (NamesF xs l) ∧ (l.length = len') ∧ D' = [] ∧ M' = [own 32 31 a' len' cap' ((l).map iC)]) := by
 refine Spec.intro (n := 9) Tryz.func37 rfl rfl (by decide) (Nat.le_of_ble_eq_true rfl) rfl (fun _ => qA) (fun _ => qA) ?_
 intro σ D M
 refine T.rslLen2 qM (fun hl hc => ?_)
 rw [List.length_map] at hl
 refine T.seq (T.region ?_)
 refine L.assign rfl rfl ?_
 refine L.nil ?_
 refine T.thenN (T.seq (T.region ?_))
 refine L.move rfl rfl ?_
 refine L.call rfl (evs.cons rfl <| evs.nil) qD qS (clone_spec (xs := xs) (by omega)) ?_
 rintro _ _ _ ⟨ca, cl, cc, rfl, hcl, rfl, rfl⟩
 refine L.norm qA qA ?_
 subst hcl
 refine L.assign rfl rfl ?_
 refine L.nil ?_
 refine T.thenN (T.seq (T.region ?_))
 refine L.move rfl rfl ?_
 refine L.call rfl (evs.cons rfl <| evs.cons rfl <| evs.nil) qD qS (sortw_spec (cf := cfI) (xs := xs) cfI_swo cfI_irr (fun x y => ocmp_spec) hb) ?_
 rintro _ _ _ ⟨ys, rfl, hp, hs, rfl, rfl⟩
 refine L.norm qA qA ?_
 refine L.nil ?_
 refine T.thenN (T.seq (T.region ?_))
 refine L.move rfl rfl ?_
 refine L.call rfl (evs.cons rfl <| evs.nil) qD qS (compact_spec (xs := ys) (by omega)) ?_
 rintro _ _ _ ⟨da, dn, dc, rfl, hdn, rfl, rfl⟩
 refine L.norm qA qA ?_
 refine L.assign rfl rfl ?_
 refine L.nil ?_
 refine T.thenN (T.ret ?_)
 exact T.ret1 rfl rfl ⟨_, _, _, ddp ys, rfl, ddp_names hp (by rw [hp.length_eq, hl]; exact hs), hdn, rfl, rfl⟩ qD qF
end Cv
