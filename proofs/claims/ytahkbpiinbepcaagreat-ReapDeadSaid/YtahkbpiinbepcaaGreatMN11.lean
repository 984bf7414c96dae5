/-
  The walks: infos read.
-/
import Derived.Test.YtahkbpiinbepcaaGreatKL11
import Derived.Test.YtahkbpiinbepcaaGreatD06
import Derived.Test.YtahkbpiinbepcaaGreatProg
import Derived.KernelRfl
set_option linter.unusedVariables false
set_option linter.unusedSimpArgs false
set_option linter.unusedSectionVars false
set_option maxHeartbeats 400000
set_option maxRecDepth 10000
namespace Cv
open Go Go.Proofs
/-! ## names read from a bale -/
def idR (b : Bl) : ID32 × Bl := (if h : (bytB b 32).1.length = 32 then ⟨(bytB b 32).1, h⟩ else zID, (bytB b 32).2)
theorem byt_or (b : Bl) : (bytB b 32).1 = [] ∨ (bytB b 32).1.length = 32 := by
  unfold bytB
  split
  · exact .inl rfl
  · split
    · exact .inl rfl
    · refine .inr ?_
      rename_i h
      show (b.left.take (32 : Int).toNat).length = 32
      rw [List.length_take]
      have : (32 : Int).toNat = 32 := rfl
      omega
theorem id_set (b : Bl) : SetAt ((List.replicate 32 (0 : UInt8)).map Y) 0 (((bytB b 32).1.take (Nat.min (bytB b 32).1.length 32)).map Y) ((idR b).1.1.map Y) := by
  rcases byt_or b with h | h
  · have e : (idR b).1 = zID := by unfold idR; rw [dif_neg (by rw [h]; decide)]
    rw [e, h]; exact SetAt.none
  · have e : (idR b).1.1 = (bytB b 32).1 := by unfold idR; rw [dif_pos h]
    rw [e, h, show Nat.min 32 32 = 32 from rfl, List.take_of_length_le (by omega)]
    exact SetAt.whole (by rw [List.length_map, List.length_map, h]; rfl)
theorem id_val {b : Bl} (h : (idR b).2.err = 0) : (idR b).1.1 = (bytB b 32).1 := by
  have := (byt_len (n := 32) (by decide) h).1
  unfold idR; rw [dif_pos (by omega)]
def idsL : Nat → Bl → List ID32 × Bl
  | 0, b => ([], b)
  | n + 1, b => if b.err ≠ 0 then ([], b) else ((idR b).1 :: (idsL n (idR b).2).1, (idsL n (idR b).2).2)
def idsF (b : Bl) (top : Nat) : List ID32 × Bl := (if (idsL (intR b top).1 (intR b top).2).2.err ≠ 0 then [] else (idsL (intR b top).1 (intR b top).2).1, (idsL (intR b top).1 (intR b top).2).2)
theorem idsL_len : ∀ (n : Nat) (b : Bl), (idsL n b).1.length ≤ n
  | 0, _ => Nat.le_refl _
  | n + 1, b => by
    rw [idsL]
    split
    · simp
    · have := idsL_len n (idR b).2
      simp only [List.length_cons]; omega
structure IdsI (b : Bl) (n j : Nat) (q : Bl) (acc : List ID32) : Prop where
  r1 : (idsL n b).1 = acc ++ (idsL j q).1
  r2 : (idsL n b).2 = (idsL j q).2
  len : acc.length + j = n
theorem IdsI.start {b : Bl} {n : Nat} : IdsI b n n b [] := ⟨rfl, rfl, Nat.zero_add _⟩
theorem IdsI.next {b q : Bl} {n j : Nat} {acc : List ID32} (h : IdsI b n (j + 1) q acc) (e : q.err = 0) : IdsI b n j (idR q).2 (acc ++ [(idR q).1]) := by
  obtain ⟨h1, h2, h3⟩ := h
  rw [idsL, if_neg (fun k => k e)] at h1 h2
  exact ⟨by rw [h1]; simp, h2, by rw [List.length_append]; simp only [List.length_singleton]; omega⟩
theorem IdsI.stop {b q : Bl} {n j : Nat} {acc : List ID32} (h : IdsI b n j q acc) (e : j = 0 ∨ q.err ≠ 0) : idsL n b = (acc, q) := by
  obtain ⟨h1, h2, h3⟩ := h
  have : idsL j q = ([], q) := by
    cases j with
    | zero => rfl
    | succ j => rw [idsL, if_pos (by rcases e with e | e <;> first | omega | exact e)]
  rw [this] at h1 h2
  exact Prod.ext (by rw [h1]; simp) h2
def parZ (s : List UInt8) : (ID32 × Bl) × (Nat × Bl) × (List ID32 × Bl) := (idR ⟨s, 0⟩, intR (idR ⟨s, 0⟩).2 32768, idsF (intR (idR ⟨s, 0⟩).2 32768).2 8)
def parI (s : List UInt8) : Pt × List ID32 × Int :=
  if closeE (parZ s).2.2.2 ≠ 0 then (zP, [], closeE (parZ s).2.2.2)
  else if chkI ((parZ s).1.1, ((parZ s).2.1.1 : Int)) (parZ s).2.2.1 ≠ 0 then (zP, [], chkI ((parZ s).1.1, ((parZ s).2.1.1 : Int)) (parZ s).2.2.1)
  else (((parZ s).1.1, ((parZ s).2.1.1 : Int)), (parZ s).2.2.1, 0)

theorem bid_spec {bb : Nat} {b : Bl}  : Spec Tryz.prog 113 [.pointer (some ⟨bb, 0, none⟩)] [] [cl bb 233 (blR (b))] (fun v D' M' => v = .agg (iC (idR b).1).toArray ∧ D' = [] ∧ M' = [cl bb 233 (blR ((idR b).2))]) := by
 refine zC (n := 9) Tryz.func113 ?_
 intro σ D M
 have hi3 := zT (idR b).1
 refine z6 (z8 (zL rfl ze38 (fun b2 => ?_)))
 refine z7 (z4 (z6 (z8 (zL rfl ze38 (fun b3 => ?_)))))
 refine z7 (z4 (z6 (yt (clsL [1, 1, 2, 2]) qk ?_)))
 refine ze 0 rfl rfl (xD rfl yf sz5 rfl Bd.no Bd.no qI qI ?_)
 refine zv (t := 4) (u := .slice (some ⟨b3, 0, none⟩) 32 32) rfl (by first | rfl | simp [cutA, Addr.add]) ?_
 refine zd (ze 1 rfl rfl (z5 rfl rfl (zd (zy 2 rfl (zx rfl (ev2 rfl rfl) qD qS (bbytes_spec (b := b) (n := 32) jD) ?_)))))
 rintro _ _ _ ⟨rfl, rfl, rfl⟩
 refine zt qA qA ?_
 refine zw rfl qD ?_
 refine zy 3 rfl (L.copyStr rfl yz sz5 rfl rfl rfl qU (id_set b) ?_)
 refine zw rfl qD ?_
 refine y6 qk ?_
 refine zZ (A := cl bb 233 (blR ((bytB b ((32 : Nat) : Int)).2))) (B := cl bb 233 (blR ((idR b).2))) qP rfl ?_
 refine z4 (z6 (z8 (zp rfl zu rfl qN ?_)))
 refine zE zu rfl rfl qL qO qU qW ?_
 exact z7 (z4 (zi (T.retA rfl zu rfl qN ⟨rfl, rfl, rfl⟩ qD qF)))
theorem bidsr_spec {bb : Nat} {b : Bl} {top : Nat} (ht : top ≤ 1000000) : Spec Tryz.prog 115 [.pointer (some ⟨bb, 0, none⟩), .int .i64 (top : Int)] [] [cl bb 233 (blR (b))] (fun v D' M' => ∃ (a' : Option Addr) (n' c' : Nat), v = .slice a' n' c' ∧ ((idsF b top).1.length = n') ∧ D' = [] ∧ M' = [cl bb 233 (blR ((idsF b top).2)), own 32 38 a' n' c' (((idsF b top).1).map iC)]) := by
 refine zC (n := 32) Tryz.func115 ?_
 intro σ D M
 have hle := int_le b top
 obtain ⟨m, hm⟩ : ∃ m, m = (intR b top).1 := ⟨_, rfl⟩
 obtain ⟨z, hz⟩ : ∃ z, z = (intR b top).2 := ⟨_, rfl⟩
 have hF : idsF b top = (if (idsL m z).2.err ≠ 0 then [] else (idsL m z).1, (idsL m z).2) := by rw [hm, hz]; rfl
 rw [← hm] at hle
 refine z6 (z8 (z9 rfl rfl (z7 (z4 (z6 (z8 (z9 rfl rfl (z7 (yF (sz := 32) (e := 38) ?_)))))))))
 refine zZ qP (show own 32 38 none 0 0 [] = own 32 38 none 0 0 ((([] : List ID32)).map iC) from rfl) ?_
 refine z4 (z6 (z6 (z8 (z5 rfl rfl (z5 rfl rfl (zx rfl (ev2 rfl rfl) qD qS (bint_spec (b := b) (top := top) jO) ?_))))))
 rintro _ _ _ ⟨rfl, rfl, rfl⟩
 refine zt qA qA ?_
 rw [← hm, ← hz]
 refine z9 rfl rfl (z7 (z4 (zr (zX (fun K' D' M' μ => ∃ (j n5 c5 : Nat) (a5 : Option Addr) (q : Bl) (acc : List ID32), (IdsI z m j q acc ∧ acc.length = n5) ∧ K' = [(6, .int .i64 (j : Int)), (5, .slice a5 n5 c5)] ∧ D' = [] ∧ M' = [cl bb 233 (blR (q)), own 32 38 a5 n5 c5 ((acc).map iC)] ∧ μ = 2 * j) (.c 0 rfl <| za _) (⟨m, 0, 0, none, z, [], ⟨.start, rfl⟩, rfl, rfl, rfl, rfl⟩) (.c 6 rfl <| .c 5 rfl <| za _) qD qS ?_))))
 rintro K1 D1 M1 m1 ⟨j, n5, c5, a5, q, acc, ⟨hI, hac⟩, rfl, rfl, rfl, rfl⟩
 refine zF qA qA qA ?_
 have hIl := hI.len
 refine z6 (z6 (z8 (z5 rfl rfl (yB rfl rfl rfl (z5 rfl rfl (yM (t := 12) rfl (fun h1 => ?_) (fun h1 => ?_)))))))
 ·try simp only [dq] at h1
  refine zf (dj := 12) rfl rfl rfl (z5 rfl rfl (zf (dj := 12) rfl rfl rfl (yi rfl rfl ?_)))
  refine zf (dj := 12) rfl rfl rfl (zj rfl fo233_1 rfl ?_)
  refine zf (dj := 12) rfl rfl rfl (zh rfl sc39 rfl qC ?_)
  refine zf (dj := 12) rfl rfl rfl (yj rfl rfl rfl (ye rfl rfl rfl (z7 (z4 (zo rfl (fun h18 => ?_) (fun h18 => ?_))))))
  ·try simp only [dq] at h18
   obtain ⟨j2, rfl⟩ : ∃ j2, j = j2 + 1 := ⟨j - 1, by omega⟩
   have hqe : q.err = 0 := h18
   have hi3 := zT (idR q).1
   refine zm (z4 (z6 (zr (z8 (z5 rfl rfl (z5 rfl rfl (zx rfl (ev1 rfl) qD qS (bid_spec (b := q)) ?_)))))))
   rintro _ _ _ ⟨rfl, rfl, rfl⟩
   refine zt qA qA ?_
   refine yh rfl bs30 jD (yQ rfl rfl (by first | with_reducible assumption | (simp; done) | (simp only [List.length_map]; with_reducible assumption) | (simp [*]; done) | rfl) (Nat.le_of_ble_eq_true rfl) qR <| zO (out := []) rfl) (fun b24 => ?_)
   refine yR rfl zA el38 rfl rfl qP qM (by rw [List.append_nil]; exact zT _) (fun u hu => by rw [List.append_nil] at hu; exact one_iC u hu) qI qI (fun a25 c25 => ?_)
   refine z9 rfl rfl (z7 (zI (z4 (z8 (z5 rfl rfl (y7 rfl rfl rfl jO ?_))))))
   refine zv (t := 20) (u := .int .i64 (j2 : Int)) rfl (congrArg (Value.int .i64) jO) ?_
   refine z9 rfl rfl (z7 (z4 (y4 _ ((acc ++ [(idR q).1]).map iC) qP (by rw [List.map_append, List.append_nil]; rfl) ?_)))
   exact zM ⟨j2, n5 + 1, _, _, (idR q).2, acc ++ [(idR q).1], ⟨hI.next hqe, by rw [List.length_append, hac]; rfl⟩, rfl, rfl, rfl, rfl⟩ qI (.c 6 rfl <| .c 5 rfl <| za _) (.c 0 rfl <| za _) qD qD qF
  ·try simp only [dq] at h18
   refine zR (zq (zq (zS (z4 (z6 (z6 (z8 (z5 rfl rfl (yi rfl rfl ?_)))))))))
   refine zj rfl fo233_1 rfl ?_
   refine zh rfl sc39 rfl qC ?_
   refine yx rfl rfl rfl (z7 (z4 (zo rfl (fun h30 => ?_) (fun h30 => ?_))))
   ·try simp only [dq] at h30
    refine z6 (z8 (z9 rfl rfl (z7 (yF (sz := 32) (e := 38) ?_))))
    refine zZ qP (show own 32 38 none 0 0 [] = own 32 38 none 0 0 ((([] : List ID32)).map iC) from rfl) ?_
    refine z4 (zi (zD ?_))
    have hst := hI.stop (by first | (left; omega) | (right; assumption))
    have hF2 : idsF b top = (if q.err ≠ 0 then [] else acc, q) := by rw [hF, hst]
    first | rw [if_pos h30] at hF2 | rw [if_neg h30] at hF2
    rw [hF2]
    exact zz rfl rfl ⟨_, _, _, rfl, (by first | rfl | exact hac), rfl, rfl⟩ qD qF
   ·try simp only [dq] at h30
    refine zm (z4 (z6 (z8 (z5 rfl rfl (z9 rfl rfl (z7 (z4 (zi ?_))))))))
    have hst := hI.stop (by first | (left; omega) | (right; assumption))
    have hF2 : idsF b top = (if q.err ≠ 0 then [] else acc, q) := by rw [hF, hst]
    first | rw [if_pos h30] at hF2 | rw [if_neg h30] at hF2
    rw [hF2]
    exact zz rfl rfl ⟨_, _, _, rfl, (by first | rfl | exact hac), rfl, rfl⟩ qD qF
 ·try simp only [dq] at h1
  refine zg (dj := 12) (c := false) rfl rfl rfl rfl rfl jD (zg (dj := 12) (c := false) rfl rfl rfl rfl rfl jD (zg (dj := 12) (c := false) rfl rfl rfl rfl rfl jD (zg (dj := 12) (c := false) rfl rfl rfl rfl rfl jD (zg (dj := 12) (c := false) rfl rfl rfl rfl rfl jD (y5 rfl rfl rfl (z7 (z4 (ym rfl rfl ?_))))))))
  refine zR (zq (zq (zS (z4 (z6 (z6 (z8 (z5 rfl rfl (yi rfl rfl ?_)))))))))
  refine zj rfl fo233_1 rfl ?_
  refine zh rfl sc39 rfl qC ?_
  refine yx rfl rfl rfl (z7 (z4 (zo rfl (fun h30 => ?_) (fun h30 => ?_))))
  ·try simp only [dq] at h30
   refine z6 (z8 (z9 rfl rfl (z7 (yF (sz := 32) (e := 38) ?_))))
   refine zZ qP (show own 32 38 none 0 0 [] = own 32 38 none 0 0 ((([] : List ID32)).map iC) from rfl) ?_
   refine z4 (zi (zD ?_))
   have hst := hI.stop (by first | (left; omega) | (right; assumption))
   have hF2 : idsF b top = (if q.err ≠ 0 then [] else acc, q) := by rw [hF, hst]
   first | rw [if_pos h30] at hF2 | rw [if_neg h30] at hF2
   rw [hF2]
   exact zz rfl rfl ⟨_, _, _, rfl, (by first | rfl | exact hac), rfl, rfl⟩ qD qF
  ·try simp only [dq] at h30
   refine zm (z4 (z6 (z8 (z5 rfl rfl (z9 rfl rfl (z7 (z4 (zi ?_))))))))
   have hst := hI.stop (by first | (left; omega) | (right; assumption))
   have hF2 : idsF b top = (if q.err ≠ 0 then [] else acc, q) := by rw [hF, hst]
   first | rw [if_pos h30] at hF2 | rw [if_neg h30] at hF2
   rw [hF2]
   exact zz rfl rfl ⟨_, _, _, rfl, (by first | rfl | exact hac), rfl, rfl⟩ qD qF
end Cv
set_option maxRecDepth 10000
namespace Cv
open Go Go.Proofs
/-! ## infos read, and their names sought: plain laws -/
theorem idsF_len (b : Bl) (top : Nat) : (idsF b top).1.length ≤ top := by
  have h1 := idsL_len (intR b top).1 (intR b top).2
  have h2 := int_le b top
  unfold idsF
  show (if _ then _ else _ : List ID32).length ≤ top
  split
  · simp
  · omega
structure HalfI (l : List ID32) (z : ID32) (i j : Nat) : Prop where
  le : i ≤ j ∧ j ≤ l.length
  lo : ∀ p, p < i → cfI (gd l p) z < 0
  hi : ∀ p, j ≤ p → p < l.length → ¬ cfI (gd l p) z < 0
theorem asc_gd {l : List ID32} (h : l.Pairwise (fun x y => x.1 < y.1)) {p q : Nat} (hpq : p < q) (hq : q < l.length) : cfI (gd l p) (gd l q) < 0 := by
  have hp : l[p]? = some (gd l p) := zJ (by omega)
  have hq' : l[q]? = some (gd l q) := zJ hq
  obtain ⟨h1, e1⟩ := List.getElem?_eq_some_iff.1 hp
  obtain ⟨h2, e2⟩ := List.getElem?_eq_some_iff.1 hq'
  have := List.pairwise_iff_getElem.1 h p q h1 h2 hpq
  rw [e1, e2] at this
  exact cmpB_lt.2 this
theorem HalfI.up {l : List ID32} {z : ID32} {i j h : Nat} (hs : l.Pairwise (fun x y => x.1 < y.1)) (H : HalfI l z i j) (h1 : i ≤ h) (h2 : h < j) (c : cfI (gd l h) z < 0) : HalfI l z (h + 1) j :=
  ⟨⟨by omega, H.le.2⟩, fun p hp => by
    rcases Nat.lt_or_ge p h with a | a
    · exact cmpB_trans (asc_gd hs a (by have := H.le.2; omega)) c
    · have : p = h := by omega
      subst this; exact c, H.hi⟩
theorem HalfI.down {l : List ID32} {z : ID32} {i j h : Nat} (hs : l.Pairwise (fun x y => x.1 < y.1)) (H : HalfI l z i j) (h1 : i ≤ h) (h2 : h < j) (c : ¬ cfI (gd l h) z < 0) : HalfI l z i h :=
  ⟨⟨h1, by have := H.le.2; omega⟩, H.lo, fun p hp hl => by
    rcases Nat.lt_or_ge h p with a | a
    · exact fun k => c (cmpB_trans (asc_gd hs a hl) k)
    · have : p = h := by omega
      subst this; exact c⟩
theorem HalfI.fin {l : List ID32} {z : ID32} {i j : Nat} (hs : l.Pairwise (fun x y => x.1 < y.1)) (H : HalfI l z i j) (e : ¬ i < j) : z ∈ l ↔ i < l.length ∧ cfI (gd l i) z = 0 := by
  have hle := H.le
  constructor
  · intro hz
    obtain ⟨p, hp, hpe⟩ := List.mem_iff_getElem.1 hz
    have hg : l[p]? = some (gd l p) := zJ hp
    have hz' : gd l p = z := by rw [List.getElem?_eq_getElem hp] at hg; rw [← hpe]; exact (Option.some.inj hg).symm
    have h0 : cfI (gd l p) z = 0 := by rw [hz']; exact cmpB_self _
    rcases Nat.lt_or_ge p i with a | a
    · have := H.lo p a; omega
    · refine ⟨by omega, ?_⟩
      rcases Nat.lt_or_ge i p with b | b
      · have h1 := H.hi i (by omega) (by omega)
        have h2 := asc_gd hs b hp
        rw [hz'] at h2
        exact absurd h2 h1
      · have : p = i := by omega
        subst this; exact h0
  · rintro ⟨h1, h2⟩
    have : gd l i = z := Subtype.ext (cmpB_eq h2)
    rw [← this]
    exact List.mem_of_getElem? (zJ h1)

theorem iparse_spec {s : List UInt8} (hs : s.length ≤ 1000000000) : Spec Tryz.prog 82 [S s] [] [] (fun v D' M' => ∃ (a' : Option Addr) (n' c' : Nat), v = .tuple #[.agg (inC (parI s).1 a' n' c').toArray, .int .i64 (parI s).2.2] ∧ ((parI s).2.1.length = n') ∧ D' = [rsl 32 a' n' c' ((parI s).2.1.map iC)] ∧ M' = []) := by
 refine zC (n := 31) Tryz.func82 ?_
 intro σ D M
 obtain ⟨z1, h1⟩ : ∃ z, z = idR ⟨s, 0⟩ := ⟨_, rfl⟩
 obtain ⟨z2, h2⟩ : ∃ z, z = intR z1.2 32768 := ⟨_, rfl⟩
 obtain ⟨z3, h3⟩ : ∃ z, z = idsF z2.2 8 := ⟨_, rfl⟩
 have hP : parI s = (if closeE z3.2 ≠ 0 then (zP, [], closeE z3.2) else if chkI (z1.1, (z2.1 : Int)) z3.1 ≠ 0 then (zP, [], chkI (z1.1, (z2.1 : Int)) z3.1) else ((z1.1, (z2.1 : Int)), z3.1, 0)) := by rw [h3, h2, h1]; rfl
 have hle := int_le z1.2 32768
 rw [← h2] at hle
 have hl8 := idsF_len z2.2 8
 rw [← h3] at hl8
 have hi3 := zT z1.1
 have hi1 := z1.1.2
 refine z6 (z8 (zL rfl ze54 (fun b2 => ?_)))
 refine z9 rfl rfl (z7 (z4 (z6 (z8 (z5 rfl rfl (zx rfl (ev1 rfl) qD qS (bopen_spec) ?_))))))
 rintro _ _ _ ⟨bb, rfl, rfl, rfl⟩
 refine zt qA qA ?_
 refine z9 rfl rfl (z7 (z4 (z6 (z8 (z5 rfl rfl (zx rfl (ev1 rfl) qD qS (bid_spec (b := ⟨s, 0⟩)) ?_))))))
 rintro _ _ _ ⟨rfl, rfl, rfl⟩
 refine zt qA qA ?_
 rw [← h1]
 refine z5 rfl rfl (zx rfl (ev2 rfl rfl) qD qS (bint_spec (b := z1.2) (top := 32768) jD) ?_)
 rintro _ _ _ ⟨rfl, rfl, rfl⟩
 refine zt qA qA ?_
 rw [← h2]
 refine yw rfl bu51 (yQ rfl rfl (by first | with_reducible assumption | (simp; done) | (simp only [List.length_map]; with_reducible assumption) | (simp [*]; done) | rfl) (Nat.le_of_ble_eq_true rfl) qR <| zB rfl rfl rfl <| zO (out := []) rfl) ?_
 refine zv (t := 14) (u := .agg (ptC (z1.1, (z2.1 : Int))).toArray) rfl (by first | rfl | simp) ?_
 refine z5 rfl rfl (zx rfl (ev2 rfl rfl) qD qS (bidsr_spec (b := z2.2) (top := 8) jD) ?_)
 rintro _ _ _ ⟨ia, il, ic, rfl, hil, rfl, rfl⟩
 refine zt qA qA ?_
 rw [← h3] at hil ⊢
 have hin := inC_len (z1.1, (z2.1 : Int)) ia il ic
 have hpt := ptC_len (z1.1, (z2.1 : Int))
 refine yw rfl bu54 (yQ rfl rfl (by first | with_reducible assumption | (simp; done) | (simp only [List.length_map]; with_reducible assumption) | (simp [*]; done) | rfl) (Nat.le_of_ble_eq_true rfl) qR <| zB rfl rfl rfl <| zO (out := []) rfl) ?_
 refine zv (t := 17) (u := .agg (inC (z1.1, (z2.1 : Int)) ia il ic).toArray) rfl (by first | rfl | simp) ?_
 refine zL rfl ze54 (fun b5 => ?_)
 refine zE y9 rfl rfl qL qO qU qW ?_
 refine z7 (y1 (A := cl b5 54 (inC (z1.1, (z2.1 : Int)) ia il ic)) qP ?_)
 refine yD (rows := z3.1.map iC) qP ?_
 refine z4 (z6 (z6 (z8 (z5 rfl rfl (zx rfl (ev1 rfl) qD qS (bclose_spec (b := z3.2)) ?_)))))
 rintro _ _ _ ⟨rfl, rfl, rfl⟩
 refine zt qA qA ?_
 refine z9 rfl rfl (z7 (z4 (z6 (z8 (z5 rfl rfl (yx rfl rfl rfl (z7 (z4 (zo rfl (fun h21 => ?_) (fun h21 => ?_))))))))))
 ·try simp only [dq] at h21
  refine z6 (z8 (yw rfl bu54 (zO (out := (Value.int .u8 0 :: .int .u8 0 :: .int .u8 0 :: .int .u8 0 :: .int .u8 0 :: .int .u8 0 :: .int .u8 0 :: .int .u8 0 :: .int .u8 0 :: .int .u8 0 :: .int .u8 0 :: .int .u8 0 :: .int .u8 0 :: .int .u8 0 :: .int .u8 0 :: .int .u8 0 :: .int .u8 0 :: .int .u8 0 :: .int .u8 0 :: .int .u8 0 :: .int .u8 0 :: .int .u8 0 :: .int .u8 0 :: .int .u8 0 :: .int .u8 0 :: .int .u8 0 :: .int .u8 0 :: .int .u8 0 :: .int .u8 0 :: .int .u8 0 :: .int .u8 0 :: .int .u8 0 :: .int .i64 0 :: Value.slice none 0 0 :: [])) rfl) ?_))
  refine z5 rfl rfl (zE y9 rfl rfl qL qO qU qW ?_)
  refine z9 rfl rfl (z7 (zZ (A := cl b2 54 (Value.int .u8 0 :: .int .u8 0 :: .int .u8 0 :: .int .u8 0 :: .int .u8 0 :: .int .u8 0 :: .int .u8 0 :: .int .u8 0 :: .int .u8 0 :: .int .u8 0 :: .int .u8 0 :: .int .u8 0 :: .int .u8 0 :: .int .u8 0 :: .int .u8 0 :: .int .u8 0 :: .int .u8 0 :: .int .u8 0 :: .int .u8 0 :: .int .u8 0 :: .int .u8 0 :: .int .u8 0 :: .int .u8 0 :: .int .u8 0 :: .int .u8 0 :: .int .u8 0 :: .int .u8 0 :: .int .u8 0 :: .int .u8 0 :: .int .u8 0 :: .int .u8 0 :: .int .u8 0 :: .int .i64 0 :: Value.slice none 0 0 :: [])) (B := cl b2 54 (inC zP none 0 0)) qP rfl ?_))
  refine yF (sz := 32) (e := 38) ?_
  refine zZ qP (show own 32 38 none 0 0 [] = own 32 38 none 0 0 (([] : List ID32).map iC) from rfl) ?_
  refine yD (rows := ([] : List ID32).map iC) qP ?_
  refine z4 (zi (zD ?_))
  rw [if_pos h21] at hP
  rw [hP]
  exact yN rfl y9 rfl qN rfl ⟨none, 0, 0, rfl, rfl, rfl, rfl⟩ qD qF
 ·try simp only [dq] at h21
  refine zm (z4 (z6 (z6 (z8 (zp rfl y9 rfl qN ?_)))))
  refine zW rfl (ev1 rfl) qD qS (icheck_spec (p := (z1.1, (z2.1 : Int))) (l := z3.1) jO) jF ?_
  refine z9 rfl rfl (z7 (z4 (z6 (z8 (z5 rfl rfl (yx rfl rfl rfl (z7 (z4 (zo rfl (fun h27 => ?_) (fun h27 => ?_))))))))))
  ·try simp only [dq] at h27
   refine z6 (z8 (yw rfl bu54 (zO (out := (Value.int .u8 0 :: .int .u8 0 :: .int .u8 0 :: .int .u8 0 :: .int .u8 0 :: .int .u8 0 :: .int .u8 0 :: .int .u8 0 :: .int .u8 0 :: .int .u8 0 :: .int .u8 0 :: .int .u8 0 :: .int .u8 0 :: .int .u8 0 :: .int .u8 0 :: .int .u8 0 :: .int .u8 0 :: .int .u8 0 :: .int .u8 0 :: .int .u8 0 :: .int .u8 0 :: .int .u8 0 :: .int .u8 0 :: .int .u8 0 :: .int .u8 0 :: .int .u8 0 :: .int .u8 0 :: .int .u8 0 :: .int .u8 0 :: .int .u8 0 :: .int .u8 0 :: .int .u8 0 :: .int .i64 0 :: Value.slice none 0 0 :: [])) rfl) ?_))
   refine z5 rfl rfl (zE y9 rfl rfl qL qO qU qW ?_)
   refine z9 rfl rfl (z7 (zZ (A := cl b2 54 (Value.int .u8 0 :: .int .u8 0 :: .int .u8 0 :: .int .u8 0 :: .int .u8 0 :: .int .u8 0 :: .int .u8 0 :: .int .u8 0 :: .int .u8 0 :: .int .u8 0 :: .int .u8 0 :: .int .u8 0 :: .int .u8 0 :: .int .u8 0 :: .int .u8 0 :: .int .u8 0 :: .int .u8 0 :: .int .u8 0 :: .int .u8 0 :: .int .u8 0 :: .int .u8 0 :: .int .u8 0 :: .int .u8 0 :: .int .u8 0 :: .int .u8 0 :: .int .u8 0 :: .int .u8 0 :: .int .u8 0 :: .int .u8 0 :: .int .u8 0 :: .int .u8 0 :: .int .u8 0 :: .int .i64 0 :: Value.slice none 0 0 :: [])) (B := cl b2 54 (inC zP none 0 0)) qP rfl ?_))
   refine yF (sz := 32) (e := 38) ?_
   refine zZ qP (show own 32 38 none 0 0 [] = own 32 38 none 0 0 (([] : List ID32).map iC) from rfl) ?_
   refine yD (rows := ([] : List ID32).map iC) qP ?_
   refine z4 (zi (zD ?_))
   rw [if_neg h21, if_pos h27] at hP
   rw [hP]
   exact yN rfl y9 rfl qN rfl ⟨none, 0, 0, rfl, rfl, rfl, rfl⟩ qD qF
  ·try simp only [dq] at h27
   refine zm (z4 (z6 (z8 (zp rfl y9 rfl qN ?_))))
   refine zE y9 rfl rfl qL qO qU qW ?_
   refine z9 rfl rfl (z7 (z4 (zi ?_)))
   rw [if_neg h21, if_neg h27] at hP
   rw [hP]
   exact yN rfl y9 rfl qN rfl ⟨_, _, _, rfl, hil, rfl, rfl⟩ qD qF
end Cv
