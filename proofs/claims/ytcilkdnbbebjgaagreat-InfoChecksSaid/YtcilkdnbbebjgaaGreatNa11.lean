/-
  The walks: infos read, compared.
-/
import Derived.Test.YtcilkdnbbebjgaaGreatMa11
import Derived.Test.YtcilkdnbbebjgaaGreatProg
import Derived.KernelRfl
set_option linter.unusedVariables false
set_option linter.unusedSimpArgs false
set_option linter.unusedSectionVars false
set_option maxRecDepth 10000
namespace Cv
open Go Go.Proofs
/-! ## infos read, and their names sought: plain laws -/
theorem idsF_len (b : Bl) (top : Nat) : (idsF b top).1.length ≤ top := by
  have h1 := idsL_len (intR b top).1 (intR b top).2
  have h2 := int_le b top
  unfold idsF
  show (if _ then _ else _ : List ID32).length ≤ top
  split
  · simp
  · omega
theorem eq_next {xs ys : List ID32} {i : Nat} (hx : i < xs.length) (hy : i < ys.length) (h : xs.take i = ys.take i) (e : gd xs i = gd ys i) : xs.take (i + 1) = ys.take (i + 1) := by
  have h1 : xs[i]? = some (gd xs i) := gd_get hx
  have h2 : ys[i]? = some (gd ys i) := gd_get hy
  rw [List.take_add_one, List.take_add_one, h, h1, h2, e]
theorem eq_stop {xs ys : List ID32} {i : Nat} (hx : i < xs.length) (hy : i < ys.length) (e : gd xs i ≠ gd ys i) : xs ≠ ys := fun h => e (by rw [h])
/-- sought by halves -/
structure HalfI (l : List ID32) (z : ID32) (i j : Nat) : Prop where
  le : i ≤ j ∧ j ≤ l.length
  lo : ∀ p, p < i → cfI (gd l p) z < 0
  hi : ∀ p, j ≤ p → p < l.length → ¬ cfI (gd l p) z < 0
theorem asc_gd {l : List ID32} (h : l.Pairwise (fun x y => x.1 < y.1)) {p q : Nat} (hpq : p < q) (hq : q < l.length) : cfI (gd l p) (gd l q) < 0 := by
  have hp : l[p]? = some (gd l p) := gd_get (by omega)
  have hq' : l[q]? = some (gd l q) := gd_get hq
  obtain ⟨h1, e1⟩ := List.getElem?_eq_some_iff.1 hp
  obtain ⟨h2, e2⟩ := List.getElem?_eq_some_iff.1 hq'
  have := List.pairwise_iff_getElem.1 h p q h1 h2 hpq
  rw [e1, e2] at this
  exact cmpB_lt.2 this
theorem HalfI.up {l : List ID32} {z : ID32} {i j h : Nat} (hs : l.Pairwise (fun x y => x.1 < y.1)) (H : HalfI l z i j) (h1 : i ≤ h) (h2 : h < j) (c : cfI (gd l h) z < 0) : HalfI l z (h + 1) j :=
  ⟨⟨by omega, H.le.2⟩, fun p hp => by
    rcases Nat.lt_or_ge p h with a | a
    · exact cmpB_trans (asc_gd hs a (by have := H.le.2; omega)) c
    · have : p = h := by omega
      subst this; exact c, H.hi⟩
theorem HalfI.down {l : List ID32} {z : ID32} {i j h : Nat} (hs : l.Pairwise (fun x y => x.1 < y.1)) (H : HalfI l z i j) (h1 : i ≤ h) (h2 : h < j) (c : ¬ cfI (gd l h) z < 0) : HalfI l z i h :=
  ⟨⟨h1, by have := H.le.2; omega⟩, H.lo, fun p hp hl => by
    rcases Nat.lt_or_ge h p with a | a
    · exact fun k => c (cmpB_trans (asc_gd hs a hl) k)
    · have : p = h := by omega
      subst this; exact c⟩
theorem HalfI.fin {l : List ID32} {z : ID32} {i j : Nat} (hs : l.Pairwise (fun x y => x.1 < y.1)) (H : HalfI l z i j) (e : ¬ i < j) : z ∈ l ↔ i < l.length ∧ cfI (gd l i) z = 0 := by
  have hle := H.le
  constructor
  · intro hz
    obtain ⟨p, hp, hpe⟩ := List.mem_iff_getElem.1 hz
    have hg : l[p]? = some (gd l p) := gd_get hp
    have hz' : gd l p = z := by rw [List.getElem?_eq_getElem hp] at hg; rw [← hpe]; exact (Option.some.inj hg).symm
    have h0 : cfI (gd l p) z = 0 := by rw [hz']; exact cmpB_self _
    rcases Nat.lt_or_ge p i with a | a
    · have := H.lo p a; omega
    · refine ⟨by omega, ?_⟩
      rcases Nat.lt_or_ge i p with b | b
      · have h1 := H.hi i (by omega) (by omega)
        have h2 := asc_gd hs b hp
        rw [hz'] at h2
        exact absurd h2 h1
      · have : p = i := by omega
        subst this; exact h0
  · rintro ⟨h1, h2⟩
    have : gd l i = z := Subtype.ext (cmpB_eq h2)
    rw [← this]
    exact List.mem_of_getElem? (gd_get h1)
theorem zv35 : ∀ w, (zeroValue 35).run Tryz.prog w = .ok (Value.agg #[Value.int .u8 0, Value.int .u8 0, Value.int .u8 0, Value.int .u8 0, Value.int .u8 0, Value.int .u8 0, Value.int .u8 0, Value.int .u8 0, Value.int .u8 0, Value.int .u8 0, Value.int .u8 0, Value.int .u8 0, Value.int .u8 0, Value.int .u8 0, Value.int .u8 0, Value.int .u8 0, Value.int .u8 0, Value.int .u8 0, Value.int .u8 0, Value.int .u8 0, Value.int .u8 0, Value.int .u8 0, Value.int .u8 0, Value.int .u8 0, Value.int .u8 0, Value.int .u8 0, Value.int .u8 0, Value.int .u8 0, Value.int .u8 0, Value.int .u8 0, Value.int .u8 0, Value.int .u8 0, Value.int .i64 0, Value.slice none 0 0]) w := fun w => by kernel_rfl
theorem ze35 : Ze Tryz.prog 35 (Value.int .u8 0 :: Value.int .u8 0 :: Value.int .u8 0 :: Value.int .u8 0 :: Value.int .u8 0 :: Value.int .u8 0 :: Value.int .u8 0 :: Value.int .u8 0 :: Value.int .u8 0 :: Value.int .u8 0 :: Value.int .u8 0 :: Value.int .u8 0 :: Value.int .u8 0 :: Value.int .u8 0 :: Value.int .u8 0 :: Value.int .u8 0 :: Value.int .u8 0 :: Value.int .u8 0 :: Value.int .u8 0 :: Value.int .u8 0 :: Value.int .u8 0 :: Value.int .u8 0 :: Value.int .u8 0 :: Value.int .u8 0 :: Value.int .u8 0 :: Value.int .u8 0 :: Value.int .u8 0 :: Value.int .u8 0 :: Value.int .u8 0 :: Value.int .u8 0 :: Value.int .u8 0 :: Value.int .u8 0 :: Value.int .i64 0 :: Value.slice none 0 0 :: []) := ⟨_, rfl, zv35⟩
theorem bu35 : Bu Tryz.prog 35 (Value.int .u8 0 :: Value.int .u8 0 :: Value.int .u8 0 :: Value.int .u8 0 :: Value.int .u8 0 :: Value.int .u8 0 :: Value.int .u8 0 :: Value.int .u8 0 :: Value.int .u8 0 :: Value.int .u8 0 :: Value.int .u8 0 :: Value.int .u8 0 :: Value.int .u8 0 :: Value.int .u8 0 :: Value.int .u8 0 :: Value.int .u8 0 :: Value.int .u8 0 :: Value.int .u8 0 :: Value.int .u8 0 :: Value.int .u8 0 :: Value.int .u8 0 :: Value.int .u8 0 :: Value.int .u8 0 :: Value.int .u8 0 :: Value.int .u8 0 :: Value.int .u8 0 :: Value.int .u8 0 :: Value.int .u8 0 :: Value.int .u8 0 :: Value.int .u8 0 :: Value.int .u8 0 :: Value.int .u8 0 :: Value.int .i64 0 :: Value.slice none 0 0 :: []) (fun (i : Nat) => ([(0, 33), (33, 1)] : List (Nat × Nat))[i]?) := bu_of Tryz.underlying35 zv35 rfl (fun w => by kernel_rfl)
set_option maxHeartbeats 400000 in
theorem iparse_spec {s : List UInt8} (hs : s.length ≤ 1000000000) : Spec Tryz.prog 20 [S s] [] [] (fun v D' M' => ∃ (a' : Option Addr) (n' c' : Nat), v = .tuple #[.agg (inC (parI s).1 a' n' c').toArray, .int .i64 (parI s).2.2] ∧ ((parI s).2.1.length = n') ∧ D' = [rsl 32 a' n' c' ((parI s).2.1.map iC)] ∧ M' = []) := by
  refine Spec.intro (n := 31) Tryz.func20 rfl rfl (by decide) (Nat.le_of_ble_eq_true rfl) rfl (fun _ => qA) (fun _ => qA) ?_
  intro σ D M
  obtain ⟨z1, h1⟩ : ∃ z, z = idR ⟨s, 0⟩ := ⟨_, rfl⟩
  obtain ⟨z2, h2⟩ : ∃ z, z = intR z1.2 32768 := ⟨_, rfl⟩
  obtain ⟨z3, h3⟩ : ∃ z, z = idsF z2.2 8 := ⟨_, rfl⟩
  have hP : parI s = (if closeE z3.2 ≠ 0 then (zP, [], closeE z3.2) else if chkI (z1.1, (z2.1 : Int)) z3.1 ≠ 0 then (zP, [], chkI (z1.1, (z2.1 : Int)) z3.1) else ((z1.1, (z2.1 : Int)), z3.1, 0)) := by rw [h3, h2, h1]; rfl
  have hle := int_le z1.2 32768
  rw [← h2] at hle
  have hl8 := idsF_len z2.2 8
  rw [← h3] at hl8
  have hi3 := iC_len z1.1
  have hi1 := z1.1.2
  refine T.seq ?_
  refine T.region ?_
  refine L.alloc rfl ze35 (fun b2 => ?_)
  refine L.assign rfl rfl ?_
  refine L.nil ?_
  refine T.thenN ?_
  refine T.seq ?_
  refine T.region ?_
  refine L.move rfl rfl ?_
  refine L.call rfl (evs.cons rfl <| evs.nil) qD qS (bopen_spec) ?_
  rintro _ _ _ ⟨bb, rfl, rfl, rfl⟩
  refine L.norm qA qA ?_
  refine L.assign rfl rfl ?_
  refine L.nil ?_
  refine T.thenN ?_
  refine T.seq ?_
  refine T.region ?_
  refine L.move rfl rfl ?_
  refine L.call rfl (evs.cons rfl <| evs.nil) qD qS (bid_spec (b := ⟨s, 0⟩)) ?_
  rintro _ _ _ ⟨rfl, rfl, rfl⟩
  refine L.norm qA qA ?_
  rw [← h1]
  refine L.move rfl rfl ?_
  refine L.call rfl (evs.cons rfl <| evs.cons rfl <| evs.nil) qD qS (bint_spec (b := z1.2) (top := 32768) (by decide)) ?_
  rintro _ _ _ ⟨rfl, rfl, rfl⟩
  refine L.norm qA qA ?_
  rw [← h2]
  refine L.build rfl bu33 (BP.agg rfl rfl (by first | with_reducible assumption | (simp; done) | (simp only [List.length_map]; with_reducible assumption) | (simp [*]; done) | rfl) (Nat.le_of_ble_eq_true rfl) qR <| BP.one rfl rfl rfl <| BP.doneE (out := []) rfl) ?_
  refine L.known (t := 14) (u := .agg (ptC (z1.1, (z2.1 : Int))).toArray) rfl (by first | rfl | simp) ?_
  refine L.move rfl rfl ?_
  refine L.call rfl (evs.cons rfl <| evs.cons rfl <| evs.nil) qD qS (bidsr_spec (b := z2.2) (top := 8) (by decide)) ?_
  rintro _ _ _ ⟨ia, il, ic, rfl, hil, rfl, rfl⟩
  refine L.norm qA qA ?_
  rw [← h3] at hil ⊢
  have hin := inC_len (z1.1, (z2.1 : Int)) ia il ic
  have hpt := ptC_len (z1.1, (z2.1 : Int))
  refine L.build rfl bu35 (BP.agg rfl rfl (by first | with_reducible assumption | (simp; done) | (simp only [List.length_map]; with_reducible assumption) | (simp [*]; done) | rfl) (Nat.le_of_ble_eq_true rfl) qR <| BP.one rfl rfl rfl <| BP.doneE (out := []) rfl) ?_
  refine L.known (t := 17) (u := .agg (inC (z1.1, (z2.1 : Int)) ia il ic).toArray) rfl (by first | rfl | simp) ?_
  refine L.alloc rfl ze35 (fun b5 => ?_)
  refine L.storeA ag35 rfl rfl qL qO qU qW ?_
  refine L.nil ?_
  refine T.freeze (A := cl b5 35 (inC (z1.1, (z2.1 : Int)) ia il ic)) qP ?_
  refine T.ownRsl (rows := z3.1.map iC) qP ?_
  refine T.thenN ?_
  refine T.seq ?_
  refine T.seq ?_
  refine T.region ?_
  refine L.move rfl rfl ?_
  refine L.call rfl (evs.cons rfl <| evs.nil) qD qS (bclose_spec (b := z3.2)) ?_
  rintro _ _ _ ⟨rfl, rfl, rfl⟩
  refine L.norm qA qA ?_
  refine L.assign rfl rfl ?_
  refine L.nil ?_
  refine T.thenN ?_
  refine T.seq ?_
  refine T.region ?_
  refine L.move rfl rfl ?_
  refine L.neI rfl rfl rfl ?_
  refine L.nil ?_
  refine T.thenN ?_
  refine T.cond rfl (fun h21 => ?_) (fun h21 => ?_)
  · try simp only [decide_eq_true_eq, decide_eq_false_iff_not, Bool.not_eq_true', Bool.not_eq_false', Bool.and_eq_true, Bool.or_eq_true] at h21
    refine T.seq ?_
    refine T.region ?_
    refine L.build rfl bu35 (BP.doneE (out := (Value.int .u8 0 :: Value.int .u8 0 :: Value.int .u8 0 :: Value.int .u8 0 :: Value.int .u8 0 :: Value.int .u8 0 :: Value.int .u8 0 :: Value.int .u8 0 :: Value.int .u8 0 :: Value.int .u8 0 :: Value.int .u8 0 :: Value.int .u8 0 :: Value.int .u8 0 :: Value.int .u8 0 :: Value.int .u8 0 :: Value.int .u8 0 :: Value.int .u8 0 :: Value.int .u8 0 :: Value.int .u8 0 :: Value.int .u8 0 :: Value.int .u8 0 :: Value.int .u8 0 :: Value.int .u8 0 :: Value.int .u8 0 :: Value.int .u8 0 :: Value.int .u8 0 :: Value.int .u8 0 :: Value.int .u8 0 :: Value.int .u8 0 :: Value.int .u8 0 :: Value.int .u8 0 :: Value.int .u8 0 :: Value.int .i64 0 :: Value.slice none 0 0 :: [])) rfl) ?_
    refine L.move rfl rfl ?_
    refine L.storeA ag35 rfl rfl qL qO qU qW ?_
    refine L.assign rfl rfl ?_
    refine L.nil ?_
    refine T.eqv (A := cl b2 35 (Value.int .u8 0 :: Value.int .u8 0 :: Value.int .u8 0 :: Value.int .u8 0 :: Value.int .u8 0 :: Value.int .u8 0 :: Value.int .u8 0 :: Value.int .u8 0 :: Value.int .u8 0 :: Value.int .u8 0 :: Value.int .u8 0 :: Value.int .u8 0 :: Value.int .u8 0 :: Value.int .u8 0 :: Value.int .u8 0 :: Value.int .u8 0 :: Value.int .u8 0 :: Value.int .u8 0 :: Value.int .u8 0 :: Value.int .u8 0 :: Value.int .u8 0 :: Value.int .u8 0 :: Value.int .u8 0 :: Value.int .u8 0 :: Value.int .u8 0 :: Value.int .u8 0 :: Value.int .u8 0 :: Value.int .u8 0 :: Value.int .u8 0 :: Value.int .u8 0 :: Value.int .u8 0 :: Value.int .u8 0 :: Value.int .i64 0 :: Value.slice none 0 0 :: [])) (B := cl b2 35 (inC zP none 0 0)) qP rfl ?_
    refine T.newOwn (sz := 32) (e := 31) ?_
    refine T.eqv qP (show own 32 31 none 0 0 [] = own 32 31 none 0 0 (([] : List ID32).map iC) from rfl) ?_
    refine T.ownRsl (rows := ([] : List ID32).map iC) qP ?_
    refine T.thenN ?_
    refine T.ret ?_
    refine T.thenR ?_
    rw [if_pos h21] at hP
    rw [hP]
    exact T.retAT rfl ag35 rfl qN rfl ⟨none, 0, 0, rfl, rfl, rfl, rfl⟩ qD qF
  · try simp only [decide_eq_true_eq, decide_eq_false_iff_not, Bool.not_eq_true', Bool.not_eq_false', Bool.and_eq_true, Bool.or_eq_true] at h21
    refine T.skip ?_
    refine T.thenN ?_
    refine T.seq ?_
    refine T.seq ?_
    refine T.region ?_
    refine L.loadA rfl ag35 rfl qN ?_
    refine L.callF rfl (evs.cons rfl <| evs.nil) qD qS (icheck_spec (p := (z1.1, (z2.1 : Int))) (l := z3.1) (by omega)) (by rintro u D1 M1 ⟨rfl, rfl, rfl⟩; exact ⟨rfl, _, qA, qF⟩) ?_
    refine L.assign rfl rfl ?_
    refine L.nil ?_
    refine T.thenN ?_
    refine T.seq ?_
    refine T.region ?_
    refine L.move rfl rfl ?_
    refine L.neI rfl rfl rfl ?_
    refine L.nil ?_
    refine T.thenN ?_
    refine T.cond rfl (fun h27 => ?_) (fun h27 => ?_)
    · try simp only [decide_eq_true_eq, decide_eq_false_iff_not, Bool.not_eq_true', Bool.not_eq_false', Bool.and_eq_true, Bool.or_eq_true] at h27
      refine T.seq ?_
      refine T.region ?_
      refine L.build rfl bu35 (BP.doneE (out := (Value.int .u8 0 :: Value.int .u8 0 :: Value.int .u8 0 :: Value.int .u8 0 :: Value.int .u8 0 :: Value.int .u8 0 :: Value.int .u8 0 :: Value.int .u8 0 :: Value.int .u8 0 :: Value.int .u8 0 :: Value.int .u8 0 :: Value.int .u8 0 :: Value.int .u8 0 :: Value.int .u8 0 :: Value.int .u8 0 :: Value.int .u8 0 :: Value.int .u8 0 :: Value.int .u8 0 :: Value.int .u8 0 :: Value.int .u8 0 :: Value.int .u8 0 :: Value.int .u8 0 :: Value.int .u8 0 :: Value.int .u8 0 :: Value.int .u8 0 :: Value.int .u8 0 :: Value.int .u8 0 :: Value.int .u8 0 :: Value.int .u8 0 :: Value.int .u8 0 :: Value.int .u8 0 :: Value.int .u8 0 :: Value.int .i64 0 :: Value.slice none 0 0 :: [])) rfl) ?_
      refine L.move rfl rfl ?_
      refine L.storeA ag35 rfl rfl qL qO qU qW ?_
      refine L.assign rfl rfl ?_
      refine L.nil ?_
      refine T.eqv (A := cl b2 35 (Value.int .u8 0 :: Value.int .u8 0 :: Value.int .u8 0 :: Value.int .u8 0 :: Value.int .u8 0 :: Value.int .u8 0 :: Value.int .u8 0 :: Value.int .u8 0 :: Value.int .u8 0 :: Value.int .u8 0 :: Value.int .u8 0 :: Value.int .u8 0 :: Value.int .u8 0 :: Value.int .u8 0 :: Value.int .u8 0 :: Value.int .u8 0 :: Value.int .u8 0 :: Value.int .u8 0 :: Value.int .u8 0 :: Value.int .u8 0 :: Value.int .u8 0 :: Value.int .u8 0 :: Value.int .u8 0 :: Value.int .u8 0 :: Value.int .u8 0 :: Value.int .u8 0 :: Value.int .u8 0 :: Value.int .u8 0 :: Value.int .u8 0 :: Value.int .u8 0 :: Value.int .u8 0 :: Value.int .u8 0 :: Value.int .i64 0 :: Value.slice none 0 0 :: [])) (B := cl b2 35 (inC zP none 0 0)) qP rfl ?_
      refine T.newOwn (sz := 32) (e := 31) ?_
      refine T.eqv qP (show own 32 31 none 0 0 [] = own 32 31 none 0 0 (([] : List ID32).map iC) from rfl) ?_
      refine T.ownRsl (rows := ([] : List ID32).map iC) qP ?_
      refine T.thenN ?_
      refine T.ret ?_
      refine T.thenR ?_
      rw [if_neg h21, if_pos h27] at hP
      rw [hP]
      exact T.retAT rfl ag35 rfl qN rfl ⟨none, 0, 0, rfl, rfl, rfl, rfl⟩ qD qF
    · try simp only [decide_eq_true_eq, decide_eq_false_iff_not, Bool.not_eq_true', Bool.not_eq_false', Bool.and_eq_true, Bool.or_eq_true] at h27
      refine T.skip ?_
      refine T.thenN ?_
      refine T.seq ?_
      refine T.region ?_
      refine L.loadA rfl ag35 rfl qN ?_
      refine L.storeA ag35 rfl rfl qL qO qU qW ?_
      refine L.assign rfl rfl ?_
      refine L.nil ?_
      refine T.thenN ?_
      refine T.ret ?_
      rw [if_neg h21, if_neg h27] at hP
      rw [hP]
      exact T.retAT rfl ag35 rfl qN rfl ⟨_, _, _, rfl, hil, rfl, rfl⟩ qD qF
set_option maxHeartbeats 400000 in
theorem equal_spec {a b : Option Addr} {n c m d : Nat} {xs ys : List ID32} (hn : n ≤ 1000000) (hm : m ≤ 1000000) : Spec Tryz.prog 63 [.slice a n c, .slice b m d] [rsl 32 a n c (xs.map iC), rsl 32 b m d (ys.map iC)] [] (fun v D' M' => v = .bool (decide (xs = ys)) ∧ D' = [] ∧ M' = []) := by
  refine Spec.intro (n := 26) Tryz.func63 rfl rfl (by decide) (Nat.le_of_ble_eq_true rfl) rfl (fun _ => qA) (fun _ => qA) ?_
  intro σ D M
  refine T.rslLen2 (rows := xs.map iC) qM (fun hxl hxc => ?_)
  rw [List.length_map] at hxl
  refine T.rslLen2 (rows := ys.map iC) qM (fun hyl hyc => ?_)
  rw [List.length_map] at hyl
  
  refine T.seq ?_
  refine T.region ?_
  refine L.assign rfl rfl ?_
  refine L.nil ?_
  refine T.thenN ?_
  refine T.seq ?_
  refine T.seq ?_
  refine T.region ?_
  refine L.move rfl rfl ?_
  refine L.lenSl rfl Tryz.underlying27 rfl ?_
  refine L.move rfl rfl ?_
  refine L.lenSl rfl Tryz.underlying27 rfl ?_
  refine L.neI rfl rfl rfl ?_
  refine L.nil ?_
  refine T.thenN ?_
  refine T.cond rfl (fun h10 => ?_) (fun h10 => ?_)
  · try simp only [decide_eq_true_eq, decide_eq_false_iff_not, Bool.not_eq_true', Bool.not_eq_false', Bool.and_eq_true, Bool.or_eq_true] at h10
    refine T.seq ?_
    refine T.region ?_
    refine L.assign rfl rfl ?_
    refine L.nil ?_
    refine T.thenN ?_
    refine T.ret ?_
    refine T.thenR ?_
    exact T.ret1 rfl rfl ⟨by rw [decide_eq_false (show xs ≠ ys from fun e => by subst e; omega)], rfl, rfl⟩ qD qF
  · try simp only [decide_eq_true_eq, decide_eq_false_iff_not, Bool.not_eq_true', Bool.not_eq_false', Bool.and_eq_true, Bool.or_eq_true] at h10
    refine T.skip ?_
    refine T.thenN ?_
    refine T.seq ?_
    refine T.seq ?_
    refine T.region ?_
    refine L.move rfl rfl ?_
    refine L.lenSl rfl Tryz.underlying27 rfl ?_
    refine L.move rfl rfl ?_
    refine L.nil ?_
    refine T.thenN ?_
    refine T.block ?_
    refine T.loop (fun K' D' M' μ => ∃ (i : Nat), (i ≤ n ∧ xs.take i = ys.take i) ∧ K' = [(13, .int .i64 (i : Int))] ∧ D' = [] ∧ M' = [] ∧ μ = n - i) (.cons (t := 0) rfl <| .cons (t := 1) rfl <| .cons (t := 12) rfl <| SubK.nil _) (⟨0, ⟨Nat.zero_le _, by simp⟩, rfl, rfl, rfl, rfl⟩) (.cons (t := 13) rfl <| SubK.nil _) qD qS ?_
    rintro K1 D1 M1 m1 ⟨i, ⟨hi, he⟩, rfl, rfl, rfl, rfl⟩
    refine T.norm3 qA qA qA ?_
    refine T.seq ?_
    refine T.region ?_
    refine L.ltI rfl rfl rfl ?_
    refine L.nil ?_
    refine T.thenN ?_
    refine T.seq ?_
    refine T.cond rfl (fun h14 => ?_) (fun h14 => ?_)
    · try simp only [decide_eq_true_eq, decide_eq_false_iff_not, Bool.not_eq_true', Bool.not_eq_false', Bool.and_eq_true, Bool.or_eq_true] at h14
      refine T.skip ?_
      refine T.thenN ?_
      refine T.seq ?_
      refine T.block ?_
      refine T.seq ?_
      refine T.region ?_
      refine L.move rfl rfl ?_
      refine L.assign rfl rfl ?_
      refine L.nil ?_
      refine T.thenN ?_
      refine T.seq ?_
      have hg0 : xs[i]? = some (gd xs i) := gd_get (by omega)
      have hgr0 : (xs.map iC)[i]? = some (iC (gd xs i)) := map_get hg0
      have hw0 := iC_len (gd xs i)
      have hv0 := (gd xs i).2
      refine T.rslAddr (rows := xs.map iC) qM (fun e => by have := congrArg List.length e; rw [List.length_map] at this; simp only [List.length_nil] at this; omega) (fun b00 o00 ha => ?_)
      subst ha
      have hg1 : ys[i]? = some (gd ys i) := gd_get (by omega)
      have hgr1 : (ys.map iC)[i]? = some (iC (gd ys i)) := map_get hg1
      have hw1 := iC_len (gd ys i)
      have hv1 := (gd ys i).2
      refine T.rslAddr (rows := ys.map iC) qM (fun e => by have := congrArg List.length e; rw [List.length_map] at this; simp only [List.length_nil] at this; omega) (fun b10 o10 ha => ?_)
      subst ha
      refine T.regionQ (by kernel_rfl) (by kernel_rfl) ?_
      refine L.move rfl rfl ?_
      refine L.move rfl rfl ?_
      refine L.idxR (i := i) rfl Tryz.underlying27 sz31 rfl rfl qM (by first | rfl | omega | (simp; done)) qI qG ?_
      refine L.loadA rfl ag31 rfl (CellsN.ofD qM (hw0)) ?_
      refine L.move rfl rfl ?_
      refine L.move rfl rfl ?_
      refine L.idxR (i := i) rfl Tryz.underlying27 sz31 rfl rfl qM (by first | rfl | omega | (simp; done)) qI qG ?_
      refine L.loadA rfl ag31 rfl (CellsN.ofD qM (hw1)) ?_
      refine L.neqArrI (by kernel_rfl) rfl Tryz.underlying31 Tryz.underlying5 sc5 rfl rfl qL qL ?_
      refine L.nilQ ?_
      refine T.thenN ?_
      refine T.cond rfl (fun h24 => ?_) (fun h24 => ?_)
      · try simp only [decide_eq_true_eq, decide_eq_false_iff_not, Bool.not_eq_true', Bool.not_eq_false', Bool.and_eq_true, Bool.or_eq_true] at h24
        have h24 : gd xs i ≠ gd ys i := fun e => h24 (by rw [e])
        refine T.seq ?_
        refine T.region ?_
        refine L.assign rfl rfl ?_
        refine L.nil ?_
        refine T.thenN ?_
        refine T.ret ?_
        refine T.blkR ?_
        refine T.thenR ?_
        refine T.thenR ?_
        refine T.blkR ?_
        refine T.thenR ?_
        exact T.ret1 rfl rfl ⟨by rw [decide_eq_false (eq_stop (by omega) (by omega) h24)], rfl, rfl⟩ qD qF
      · try simp only [decide_eq_true_eq, decide_eq_false_iff_not, Bool.not_eq_true', Bool.not_eq_false', Bool.and_eq_true, Bool.or_eq_true] at h24
        have h24 : gd xs i = gd ys i := Subtype.ext (by simpa using h24)
        refine T.skip ?_
        refine T.blkN ?_
        refine T.thenN ?_
        refine T.region ?_
        refine L.addN rfl rfl rfl (by omega) ?_
        refine L.move rfl rfl ?_
        refine L.nil ?_
        refine T.thenN ?_
        exact T.back ⟨i + 1, ⟨by omega, eq_next (by omega) (by omega) he h24⟩, rfl, rfl, rfl, rfl⟩ qI (.cons (t := 13) rfl <| SubK.nil _) (.cons (t := 0) rfl <| .cons (t := 1) rfl <| .cons (t := 12) rfl <| SubK.nil _) qD qD qF
    · try simp only [decide_eq_true_eq, decide_eq_false_iff_not, Bool.not_eq_true', Bool.not_eq_false', Bool.and_eq_true, Bool.or_eq_true] at h14
      refine T.exit ?_
      refine T.thenX ?_
      refine T.thenX ?_
      refine T.blkX ?_
      refine T.thenN ?_
      refine T.seq ?_
      refine T.region ?_
      refine L.assign rfl rfl ?_
      refine L.nil ?_
      refine T.thenN ?_
      refine T.ret ?_
      exact T.ret1 rfl rfl ⟨by rw [decide_eq_true (show xs = ys from by rw [List.take_of_length_le (by omega), List.take_of_length_le (by omega)] at he; exact he)], rfl, rfl⟩ qD qF
end Cv
