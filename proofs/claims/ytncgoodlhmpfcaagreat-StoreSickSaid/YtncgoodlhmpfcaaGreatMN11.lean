/-
  The walks: infos read.
-/
import Derived.Test.YtncgoodlhmpfcaaGreatKL11
import Derived.Test.YtncgoodlhmpfcaaGreatD06
set_option linter.all false
set_option maxHeartbeats 400000
set_option maxRecDepth 10000
namespace Cv
open Go Go.Proofs
/-! ## names read from a bale -/
def idR (b : Bl) : ID32 × Bl := (if h : (bytB b 32).1.length = 32 then ⟨(bytB b 32).1, h⟩ else zID, (bytB b 32).2)
theorem byt_or (b : Bl) : (bytB b 32).1 = [] ∨ (bytB b 32).1.length = 32 := by
  unfold bytB
  split
  · exact .inl R
  · split
    · exact .inl R
    · refine .inr ?_
      rename_i h
      show (b.left.take (32 : Int).toNat).length = 32
      rw [List.length_take]
      have : (32 : Int).toNat = 32 := rfl
      omega
theorem id_set (b : Bl) : SetAt ((List.replicate 32 (0 : UInt8)).map Y) 0 (((bytB b 32).1.take (Nat.min (bytB b 32).1.length 32)).map Y) ((idR b).1.1.map Y) := by
  rcases byt_or b with h | h
  · have e : (idR b).1 = zID := by unfold idR; rw [dif_neg (by rw [h]; decide)]
    rw [e, h]; exact SetAt.none
  · have e : (idR b).1.1 = (bytB b 32).1 := by unfold idR; rw [dif_pos h]
    rw [e, h, show Nat.min 32 32 = 32 from rfl, List.take_of_length_le (by omega)]
    exact SetAt.whole (by rw [List.length_map, List.length_map, h]; rfl)
def idsL : Nat → Bl → List ID32 × Bl
  | 0, b => ([], b)
  | n + 1, b => if b.err ≠ 0 then ([], b) else ((idR b).1 :: (idsL n (idR b).2).1, (idsL n (idR b).2).2)
def idsF (b : Bl) (top : Nat) : List ID32 × Bl := (if (idsL (intR b top).1 (intR b top).2).2.err ≠ 0 then [] else (idsL (intR b top).1 (intR b top).2).1, (idsL (intR b top).1 (intR b top).2).2)
theorem idsL_len : ∀ (n : Nat) (b : Bl), (idsL n b).1.length ≤ n
  | 0, _ => Nat.le_refl _
  | n + 1, b => by
    rw [idsL]
    split
    · simp
    · have := idsL_len n (idR b).2
      simp only [List.length_cons]; omega
structure IdsI (b : Bl) (n j : Nat) (q : Bl) (acc : List ID32) : Prop where
  r1 : (idsL n b).1 = acc ++ (idsL j q).1
  r2 : (idsL n b).2 = (idsL j q).2
  len : acc.length + j = n
theorem IdsI.start {b : Bl} {n : Nat} : IdsI b n n b [] := ⟨rfl, rfl, Nat.zero_add _⟩
theorem IdsI.next {b q : Bl} {n j : Nat} {acc : List ID32} (h : IdsI b n (j + 1) q acc) (e : q.err = 0) : IdsI b n j (idR q).2 (acc ++ [(idR q).1]) := by
  obtain ⟨h1, h2, h3⟩ := h
  rw [idsL, if_neg (fun k => k e)] at h1 h2
  exact ⟨by rw [h1]; simp, h2, by rw [List.length_append]; simp only [List.length_singleton]; omega⟩
theorem IdsI.stop {b q : Bl} {n j : Nat} {acc : List ID32} (h : IdsI b n j q acc) (e : j = 0 ∨ q.err ≠ 0) : idsL n b = (acc, q) := by
  obtain ⟨h1, h2, h3⟩ := h
  have : idsL j q = ([], q) := by
    cases j with
    | zero => rfl
    | succ j => rw [idsL, if_pos (by rcases e with e | e <;> first | omega | exact e)]
  rw [this] at h1 h2
  exact Prod.ext (by rw [h1]; simp) h2
def parZ (s : List UInt8) : (ID32 × Bl) × (Nat × Bl) × (List ID32 × Bl) := (idR ⟨s, 0⟩, intR (idR ⟨s, 0⟩).2 32768, idsF (intR (idR ⟨s, 0⟩).2 32768).2 8)
def parI (s : List UInt8) : Pt × List ID32 × Int :=
  if closeE (parZ s).2.2.2 ≠ 0 then (zP, [], closeE (parZ s).2.2.2)
  else if chkI ((parZ s).1.1, ((parZ s).2.1.1 : Int)) (parZ s).2.2.1 ≠ 0 then (zP, [], chkI ((parZ s).1.1, ((parZ s).2.1.1 : Int)) (parZ s).2.2.1)
  else (((parZ s).1.1, ((parZ s).2.1.1 : Int)), (parZ s).2.2.1, 0)

theorem bid_spec {bb : Nat} {b : Bl}  : Spec Tryz.prog 185 [.pointer (some ⟨bb, 0, none⟩)] [] [cl bb 292 (blR (b))] (fun v D' M' => v = .agg (iC (idR b).1).toArray ∧ D' = [] ∧ M' = [cl bb 292 (blR ((idR b).2))]) := by
 refine zv (n := 9) Tryz.func185 ?_
 intro σ D M
 have hi3 := yw (idR b).1
 refine O (zC R ze38 (fun b2 => ?_))
 refine I (O (zC R ze38 (fun b3 => ?_)))
 refine I (ze (y7 (clsL [1, 1, 2, 2]) qk ?_))
 refine z9 0 R R (xB R yf sz5 R xb xb qI qI ?_)
 refine zE (t := 4) (u := .slice (some ⟨b3, 0, none⟩) 32 32) R (by first | rfl | simp [cutA, Addr.add]) ?_
 refine z7 (z9 1 R R (E R R (z7 (zi 2 R (zp R (ev2 R R) qD qS (bbytes_spec (b := b) (n := 32) jD) ?_)))))
 rintro _ _ _ ⟨rfl, rfl, rfl⟩
 refine zm qA qA ?_
 refine zh R qD ?_
 refine zi 3 R (L.copyStr R yz sz5 R R R qU (id_set b) ?_)
 refine zh R qD ?_
 refine zN qk ?_
 refine y3 (A := cl bb 292 (blR ((bytB b ((32 : Nat) : Int)).2))) (B := cl bb 292 (blR ((idR b).2))) qP R ?_
 refine z8 (O (zx R zI R qN ?_))
 refine zz zI R R qL qO qU qW ?_
 exact I (zo (xt R zI R qN ⟨R, R, R⟩ qD qF))
theorem bidsr_spec {bb : Nat} {b : Bl} {top : Nat} (ht : top ≤ 1000000) : Spec Tryz.prog 186 [.pointer (some ⟨bb, 0, none⟩), .int .i64 (top : Int)] [] [cl bb 292 (blR (b))] (fun v D' M' => ∃ (a' : Option Addr) (n' c' : Nat), v = .slice a' n' c' ∧ ((idsF b top).1.length = n') ∧ D' = [] ∧ M' = [cl bb 292 (blR ((idsF b top).2)), own 32 38 a' n' c' (((idsF b top).1).map iC)]) := by
 refine zv (n := 32) Tryz.func186 ?_
 intro σ D M
 have hle := int_le b top
 obtain ⟨m, hm⟩ : ∃ m, m = (intR b top).1 := ⟨_, rfl⟩
 obtain ⟨z, hz⟩ : ∃ z, z = (intR b top).2 := ⟨_, rfl⟩
 have hF : idsF b top = (if (idsL m z).2.err ≠ 0 then [] else (idsL m z).1, (idsL m z).2) := by rw [hm, hz]; rfl
 rw [← hm] at hle
 refine O (V R R (I (O (V R R (zu (yM (sz := 32) (e := 38) ?_))))))
 refine y3 qP (show own 32 38 none 0 0 [] = own 32 38 none 0 0 ((([] : List ID32)).map iC) from R) ?_
 refine z8 (ze (O (E R R (E R R (zp R (ev2 R R) qD qS (bint_spec (b := b) (top := top) jO) ?_)))))
 rintro _ _ _ ⟨rfl, rfl, rfl⟩
 refine zm qA qA ?_
 rw [← hm, ← hz]
 refine V R R (I (zD (y8 (fun K' D' M' μ => ∃ (j n5 c5 : Nat) (a5 : Option Addr) (q : Bl) (acc : List ID32), (IdsI z m j q acc ∧ acc.length = n5) ∧ K' = [(6, .int .i64 (j : Int)), (5, .slice a5 n5 c5)] ∧ D' = [] ∧ M' = [cl bb 292 (blR (q)), own 32 38 a5 n5 c5 ((acc).map iC)] ∧ μ = 2 * j) (.c 0 R <| zd _) (⟨m, 0, 0, none, z, [], ⟨.start, R⟩, R, R, R, R⟩) (.c 6 R <| .c 5 R <| zd _) qD qS ?_)))
 rintro K1 D1 M1 m1 ⟨j, n5, c5, a5, q, acc, ⟨hI, hac⟩, rfl, rfl, rfl, rfl⟩
 refine zM qA qA qA ?_
 have hIl := hI.len
 refine ze (O (E R R (yy R R R (E R R (yT (t := 12) R (fun h1 => ?_) (fun h1 => ?_))))))
 ·try simp only [dq] at h1
  refine zj 12 R R R (E R R (zj 12 R R R (zJ R R ?_)))
  refine zj 12 R R R (zg R fo292_1 R ?_)
  refine zj 12 R R R (zf R sc39 R qC ?_)
  refine zj 12 R R R (yi R R R (ym R R R (I (zA R (fun h18 => ?_) (fun h18 => ?_)))))
  ·try simp only [dq] at h18
   obtain ⟨j2, rfl⟩ : ∃ j2, j = j2 + 1 := ⟨j - 1, by omega⟩
   have hqe : q.err = 0 := h18
   have hi3 := yw (idR q).1
   refine zq (z8 (ze (zD (zt (E R R (E R R (zp R (ev1 R) qD qS (bid_spec (b := q)) ?_)))))))
   rintro _ _ _ ⟨rfl, rfl, rfl⟩
   refine zm qA qA ?_
   refine yl R bs32 jD (yG R R j1 (Nat.le_of_ble_eq_true R) qR <| zQ (out := []) R) (fun b24 => ?_)
   refine x6 R yh el38 R R qP qM (by rw [List.append_nil]; exact yw _) (fun u hu => by rw [List.append_nil] at hu; exact one_iC u hu) qI qI (fun a25 c25 => ?_)
   refine V R R (zu (zS (z8 (zt (E R R (yt R R R jO ?_))))))
   refine zE (t := 20) (u := .int .i64 (j2 : Int)) R (congrArg (Value.int .i64) jO) ?_
   refine V R R (I (yp _ ((acc ++ [(idR q).1]).map iC) qP (by rw [List.map_append, List.append_nil]; rfl) ?_))
   exact zV ⟨j2, n5 + 1, _, _, (idR q).2, acc ++ [(idR q).1], ⟨hI.next hqe, by rw [List.length_append, hac]; rfl⟩, R, R, R, R⟩ qI (.c 6 R <| .c 5 R <| zd _) (.c 0 R <| zd _) qD qD qF
  try simp only [dq] at h18
  refine y4 (zG (zG (y5 (z8 (ze (O (E R R (zJ R R ?_))))))))
  refine zg R fo292_1 R ?_
  refine zf R sc39 R qC ?_
  refine zZ R R R (I (zA R (fun h30 => ?_) (fun h30 => ?_)))
  ·try simp only [dq] at h30
   refine O (V R R (zu (yM (sz := 32) (e := 38) ?_)))
   refine y3 qP (show own 32 38 none 0 0 [] = own 32 38 none 0 0 ((([] : List ID32)).map iC) from R) ?_
   refine z8 (zo (zL ?_))
   have hst := hI.stop (by first | (left; omega) | (right; assumption))
   have hF2 : idsF b top = (if q.err ≠ 0 then [] else acc, q) := by rw [hF, hst]
   first | rw [if_pos h30] at hF2 | rw [if_neg h30] at hF2
   rw [hF2]
   exact zy R R ⟨_, _, _, R, (by first | rfl | exact hac), R, R⟩ qD qF
  try simp only [dq] at h30
  refine zq (z8 (O (E R R (V R R (I (zo ?_))))))
  have hst := hI.stop (by first | (left; omega) | (right; assumption))
  have hF2 : idsF b top = (if q.err ≠ 0 then [] else acc, q) := by rw [hF, hst]
  first | rw [if_pos h30] at hF2 | rw [if_neg h30] at hF2
  rw [hF2]
  exact zy R R ⟨_, _, _, R, (by first | rfl | exact hac), R, R⟩ qD qF
 try simp only [dq] at h1
 refine zw 12 false R R R R R jD (zw 12 false R R R R R jD (zw 12 false R R R R R jD (zw 12 false R R R R R jD (zw 12 false R R R R R jD (yg R R R (I (zR R R ?_)))))))
 refine y4 (zG (zG (y5 (z8 (ze (O (E R R (zJ R R ?_))))))))
 refine zg R fo292_1 R ?_
 refine zf R sc39 R qC ?_
 refine zZ R R R (I (zA R (fun h30 => ?_) (fun h30 => ?_)))
 ·try simp only [dq] at h30
  refine O (V R R (zu (yM (sz := 32) (e := 38) ?_)))
  refine y3 qP (show own 32 38 none 0 0 [] = own 32 38 none 0 0 ((([] : List ID32)).map iC) from R) ?_
  refine z8 (zo (zL ?_))
  have hst := hI.stop (by first | (left; omega) | (right; assumption))
  have hF2 : idsF b top = (if q.err ≠ 0 then [] else acc, q) := by rw [hF, hst]
  first | rw [if_pos h30] at hF2 | rw [if_neg h30] at hF2
  rw [hF2]
  exact zy R R ⟨_, _, _, R, (by first | rfl | exact hac), R, R⟩ qD qF
 try simp only [dq] at h30
 refine zq (z8 (O (E R R (V R R (I (zo ?_))))))
 have hst := hI.stop (by first | (left; omega) | (right; assumption))
 have hF2 : idsF b top = (if q.err ≠ 0 then [] else acc, q) := by rw [hF, hst]
 first | rw [if_pos h30] at hF2 | rw [if_neg h30] at hF2
 rw [hF2]
 exact zy R R ⟨_, _, _, R, (by first | rfl | exact hac), R, R⟩ qD qF
end Cv
set_option maxRecDepth 10000
namespace Cv
open Go Go.Proofs
/-! ## infos read, and their names sought: plain laws -/
theorem idsF_len (b : Bl) (top : Nat) : (idsF b top).1.length ≤ top := by
  have h1 := idsL_len (intR b top).1 (intR b top).2
  have h2 := int_le b top
  unfold idsF
  show (if _ then _ else _ : List ID32).length ≤ top
  split
  · simp
  · omega
structure HalfI (l : List ID32) (z : ID32) (i j : Nat) : Prop where
  le : i ≤ j ∧ j ≤ l.length
  lo : ∀ p, p < i → cfI (gd l p) z < 0
  hi : ∀ p, j ≤ p → p < l.length → ¬ cfI (gd l p) z < 0
theorem asc_gd {l : List ID32} (h : l.Pairwise (fun x y => x.1 < y.1)) {p q : Nat} (hpq : p < q) (hq : q < l.length) : cfI (gd l p) (gd l q) < 0 := by
  have hp : l[p]? = some (gd l p) := y9 (by omega)
  have hq' : l[q]? = some (gd l q) := y9 hq
  obtain ⟨h1, e1⟩ := List.getElem?_eq_some_iff.1 hp
  obtain ⟨h2, e2⟩ := List.getElem?_eq_some_iff.1 hq'
  have := List.pairwise_iff_getElem.1 h p q h1 h2 hpq
  rw [e1, e2] at this
  exact cmpB_lt.2 this
theorem HalfI.up {l : List ID32} {z : ID32} {i j h : Nat} (hs : l.Pairwise (fun x y => x.1 < y.1)) (H : HalfI l z i j) (h1 : i ≤ h) (h2 : h < j) (c : cfI (gd l h) z < 0) : HalfI l z (h + 1) j :=
  ⟨⟨by omega, H.le.2⟩, fun p hp => by
    rcases Nat.lt_or_ge p h with a | a
    · exact cmpB_trans (asc_gd hs a (by have := H.le.2; omega)) c
    · have : p = h := by omega
      subst this; exact c, H.hi⟩
theorem HalfI.down {l : List ID32} {z : ID32} {i j h : Nat} (hs : l.Pairwise (fun x y => x.1 < y.1)) (H : HalfI l z i j) (h1 : i ≤ h) (h2 : h < j) (c : ¬ cfI (gd l h) z < 0) : HalfI l z i h :=
  ⟨⟨h1, by have := H.le.2; omega⟩, H.lo, fun p hp hl => by
    rcases Nat.lt_or_ge h p with a | a
    · exact fun k => c (cmpB_trans (asc_gd hs a hl) k)
    · have : p = h := by omega
      subst this; exact c⟩
theorem HalfI.fin {l : List ID32} {z : ID32} {i j : Nat} (hs : l.Pairwise (fun x y => x.1 < y.1)) (H : HalfI l z i j) (e : ¬ i < j) : z ∈ l ↔ i < l.length ∧ cfI (gd l i) z = 0 := by
  have hle := H.le
  constructor
  · intro hz
    obtain ⟨p, hp, hpe⟩ := List.mem_iff_getElem.1 hz
    have hg : l[p]? = some (gd l p) := y9 hp
    have hz' : gd l p = z := by rw [List.getElem?_eq_getElem hp] at hg; rw [← hpe]; exact (Option.some.inj hg).symm
    have h0 : cfI (gd l p) z = 0 := by rw [hz']; exact cmpB_self _
    rcases Nat.lt_or_ge p i with a | a
    · have := H.lo p a; omega
    · refine ⟨by omega, ?_⟩
      rcases Nat.lt_or_ge i p with b | b
      · have h1 := H.hi i (by omega) (by omega)
        have h2 := asc_gd hs b hp
        rw [hz'] at h2
        exact absurd h2 h1
      · have : p = i := by omega
        subst this; exact h0
  · rintro ⟨h1, h2⟩
    have : gd l i = z := Subtype.ext (cmpB_eq h2)
    rw [← this]
    exact List.mem_of_getElem? (y9 h1)

theorem iparse_spec {s : List UInt8} (hs : s.length ≤ 1000000000) : Spec Tryz.prog 126 [S s] [] [] (fun v D' M' => ∃ (a' : Option Addr) (n' c' : Nat), v = .tuple #[.agg (inC (parI s).1 a' n' c').toArray, .int .i64 (parI s).2.2] ∧ ((parI s).2.1.length = n') ∧ D' = [rsl 32 a' n' c' ((parI s).2.1.map iC)] ∧ M' = []) := by
 refine zv (n := 31) Tryz.func126 ?_
 intro σ D M
 obtain ⟨z1, h1⟩ : ∃ z, z = idR ⟨s, 0⟩ := ⟨_, rfl⟩
 obtain ⟨z2, h2⟩ : ∃ z, z = intR z1.2 32768 := ⟨_, rfl⟩
 obtain ⟨z3, h3⟩ : ∃ z, z = idsF z2.2 8 := ⟨_, rfl⟩
 have hP : parI s = (if closeE z3.2 ≠ 0 then (zP, [], closeE z3.2) else if chkI (z1.1, (z2.1 : Int)) z3.1 ≠ 0 then (zP, [], chkI (z1.1, (z2.1 : Int)) z3.1) else ((z1.1, (z2.1 : Int)), z3.1, 0)) := by rw [h3, h2, h1]; rfl
 have hle := int_le z1.2 32768
 rw [← h2] at hle
 have hl8 := idsF_len z2.2 8
 rw [← h3] at hl8
 have hi3 := yw z1.1
 have hi1 := z1.1.2
 refine O (zC R ze75 (fun b2 => ?_))
 refine V R R (I (O (E R R (zp R (ev1 R) qD qS (bopen_spec) ?_))))
 rintro _ _ _ ⟨bb, rfl, rfl, rfl⟩
 refine zm qA qA ?_
 refine V R R (I (O (E R R (zp R (ev1 R) qD qS (bid_spec (b := ⟨s, 0⟩)) ?_))))
 rintro _ _ _ ⟨rfl, rfl, rfl⟩
 refine zm qA qA ?_
 rw [← h1]
 refine E R R (zp R (ev2 R R) qD qS (bint_spec (b := z1.2) (top := 32768) jD) ?_)
 rintro _ _ _ ⟨rfl, rfl, rfl⟩
 refine zm qA qA ?_
 rw [← h2]
 refine yq R bu73 (yG R R j1 (Nat.le_of_ble_eq_true R) qR <| zF R R R <| zQ (out := []) R) ?_
 refine zE (t := 14) (u := .agg (ptC (z1.1, (z2.1 : Int))).toArray) R (by first | rfl | simp) ?_
 refine E R R (zp R (ev2 R R) qD qS (bidsr_spec (b := z2.2) (top := 8) jD) ?_)
 rintro _ _ _ ⟨ia, il, ic, rfl, hil, rfl, rfl⟩
 refine zm qA qA ?_
 rw [← h3] at hil ⊢
 have hin := inC_len (z1.1, (z2.1 : Int)) ia il ic
 have hpt := ptC_len (z1.1, (z2.1 : Int))
 refine yq R bu75 (yG R R j1 (Nat.le_of_ble_eq_true R) qR <| zF R R R <| zQ (out := []) R) ?_
 refine zE (t := 17) (u := .agg (inC (z1.1, (z2.1 : Int)) ia il ic).toArray) R (by first | rfl | simp) ?_
 refine zC R ze75 (fun b5 => ?_)
 refine zz yu R R qL qO qU qW ?_
 refine zu (zO (A := cl b5 75 (inC (z1.1, (z2.1 : Int)) ia il ic)) qP ?_)
 refine yQ (rows := z3.1.map iC) qP ?_
 refine z8 (ze (O (E R R (zp R (ev1 R) qD qS (bclose_spec (b := z3.2)) ?_))))
 rintro _ _ _ ⟨rfl, rfl, rfl⟩
 refine zm qA qA ?_
 refine V R R (I (O (E R R (zZ R R R (I (zA R (fun h21 => ?_) (fun h21 => ?_)))))))
 ·try simp only [dq] at h21
  refine O (yq R bu75 (zQ (out := (j8 :: j8 :: j8 :: j8 :: j8 :: j8 :: j8 :: j8 :: j8 :: j8 :: j8 :: j8 :: j8 :: j8 :: j8 :: j8 :: j8 :: j8 :: j8 :: j8 :: j8 :: j8 :: j8 :: j8 :: j8 :: j8 :: j8 :: j8 :: j8 :: j8 :: j8 :: j8 :: .int .i64 0 :: Value.slice none 0 0 :: [])) R) ?_)
  refine E R R (zz yu R R qL qO qU qW ?_)
  refine V R R (zu (y3 (A := cl b2 75 (j8 :: j8 :: j8 :: j8 :: j8 :: j8 :: j8 :: j8 :: j8 :: j8 :: j8 :: j8 :: j8 :: j8 :: j8 :: j8 :: j8 :: j8 :: j8 :: j8 :: j8 :: j8 :: j8 :: j8 :: j8 :: j8 :: j8 :: j8 :: j8 :: j8 :: j8 :: j8 :: .int .i64 0 :: Value.slice none 0 0 :: [])) (B := cl b2 75 (inC zP none 0 0)) qP R ?_))
  refine yM (sz := 32) (e := 38) ?_
  refine y3 qP (show own 32 38 none 0 0 [] = own 32 38 none 0 0 (([] : List ID32).map iC) from R) ?_
  refine yQ (rows := ([] : List ID32).map iC) qP ?_
  refine z8 (zo (zL ?_))
  rw [if_pos h21] at hP
  rw [hP]
  exact yW R yu R qN R ⟨none, 0, 0, R, R, R, R⟩ qD qF
 try simp only [dq] at h21
 refine zq (z8 (ze (O (zx R yu R qN ?_))))
 refine zH R (ev1 R) qD qS (icheck_spec (p := (z1.1, (z2.1 : Int))) (l := z3.1) jO) jF ?_
 refine V R R (I (O (E R R (zZ R R R (I (zA R (fun h27 => ?_) (fun h27 => ?_)))))))
 ·try simp only [dq] at h27
  refine O (yq R bu75 (zQ (out := (j8 :: j8 :: j8 :: j8 :: j8 :: j8 :: j8 :: j8 :: j8 :: j8 :: j8 :: j8 :: j8 :: j8 :: j8 :: j8 :: j8 :: j8 :: j8 :: j8 :: j8 :: j8 :: j8 :: j8 :: j8 :: j8 :: j8 :: j8 :: j8 :: j8 :: j8 :: j8 :: .int .i64 0 :: Value.slice none 0 0 :: [])) R) ?_)
  refine E R R (zz yu R R qL qO qU qW ?_)
  refine V R R (zu (y3 (A := cl b2 75 (j8 :: j8 :: j8 :: j8 :: j8 :: j8 :: j8 :: j8 :: j8 :: j8 :: j8 :: j8 :: j8 :: j8 :: j8 :: j8 :: j8 :: j8 :: j8 :: j8 :: j8 :: j8 :: j8 :: j8 :: j8 :: j8 :: j8 :: j8 :: j8 :: j8 :: j8 :: j8 :: .int .i64 0 :: Value.slice none 0 0 :: [])) (B := cl b2 75 (inC zP none 0 0)) qP R ?_))
  refine yM (sz := 32) (e := 38) ?_
  refine y3 qP (show own 32 38 none 0 0 [] = own 32 38 none 0 0 (([] : List ID32).map iC) from R) ?_
  refine yQ (rows := ([] : List ID32).map iC) qP ?_
  refine z8 (zo (zL ?_))
  rw [if_neg h21, if_pos h27] at hP
  rw [hP]
  exact yW R yu R qN R ⟨none, 0, 0, R, R, R, R⟩ qD qF
 try simp only [dq] at h27
 refine zq (z8 (O (zx R yu R qN ?_)))
 refine zz yu R R qL qO qU qW ?_
 refine V R R (I (zo ?_))
 rw [if_neg h21, if_neg h27] at hP
 rw [hP]
 exact yW R yu R qN R ⟨_, _, _, R, hil, R, R⟩ qD qF
end Cv
