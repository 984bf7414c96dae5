/-
  The walks: infos read.
-/
import Derived.Test.YtahkbpiinbepcaaGreatKL11
import Derived.Test.YtahkbpiinbepcaaGreatD06
import Derived.Test.YtahkbpiinbepcaaGreatProg
import Derived.KernelRfl
set_option linter.unusedVariables false
set_option linter.unusedSimpArgs false
set_option linter.unusedSectionVars false
set_option maxHeartbeats 400000
set_option maxRecDepth 10000
namespace Cv
open Go Go.Proofs
/-! ## names read from a bale -/
def idR (b : Bl) : ID32 × Bl := (if h : (bytB b 32).1.length = 32 then ⟨(bytB b 32).1, h⟩ else zID, (bytB b 32).2)
theorem byt_or (b : Bl) : (bytB b 32).1 = [] ∨ (bytB b 32).1.length = 32 := by
  unfold bytB
  split
  · exact .inl rfl
  · split
    · exact .inl rfl
    · refine .inr ?_
      rename_i h
      show (b.left.take (32 : Int).toNat).length = 32
      rw [List.length_take]
      have : (32 : Int).toNat = 32 := rfl
      omega
theorem id_set (b : Bl) : SetAt ((List.replicate 32 (0 : UInt8)).map Y) 0 (((bytB b 32).1.take (Nat.min (bytB b 32).1.length 32)).map Y) ((idR b).1.1.map Y) := by
  rcases byt_or b with h | h
  · have e : (idR b).1 = zID := by unfold idR; rw [dif_neg (by rw [h]; decide)]
    rw [e, h]; exact SetAt.none
  · have e : (idR b).1.1 = (bytB b 32).1 := by unfold idR; rw [dif_pos h]
    rw [e, h, show Nat.min 32 32 = 32 from rfl, List.take_of_length_le (by omega)]
    exact SetAt.whole (by rw [List.length_map, List.length_map, h]; rfl)
theorem id_val {b : Bl} (h : (idR b).2.err = 0) : (idR b).1.1 = (bytB b 32).1 := by
  have := (byt_len (n := 32) (by decide) h).1
  unfold idR; rw [dif_pos (by omega)]
def idsL : Nat → Bl → List ID32 × Bl
  | 0, b => ([], b)
  | n + 1, b => if b.err ≠ 0 then ([], b) else ((idR b).1 :: (idsL n (idR b).2).1, (idsL n (idR b).2).2)
def idsF (b : Bl) (top : Nat) : List ID32 × Bl := (if (idsL (intR b top).1 (intR b top).2).2.err ≠ 0 then [] else (idsL (intR b top).1 (intR b top).2).1, (idsL (intR b top).1 (intR b top).2).2)
theorem idsL_len : ∀ (n : Nat) (b : Bl), (idsL n b).1.length ≤ n
  | 0, _ => Nat.le_refl _
  | n + 1, b => by
    rw [idsL]
    split
    · simp
    · have := idsL_len n (idR b).2
      simp only [List.length_cons]; omega
structure IdsI (b : Bl) (n j : Nat) (q : Bl) (acc : List ID32) : Prop where
  r1 : (idsL n b).1 = acc ++ (idsL j q).1
  r2 : (idsL n b).2 = (idsL j q).2
  len : acc.length + j = n
theorem IdsI.start {b : Bl} {n : Nat} : IdsI b n n b [] := ⟨rfl, rfl, Nat.zero_add _⟩
theorem IdsI.next {b q : Bl} {n j : Nat} {acc : List ID32} (h : IdsI b n (j + 1) q acc) (e : q.err = 0) : IdsI b n j (idR q).2 (acc ++ [(idR q).1]) := by
  obtain ⟨h1, h2, h3⟩ := h
  rw [idsL, if_neg (fun k => k e)] at h1 h2
  exact ⟨by rw [h1]; simp, h2, by rw [List.length_append]; simp only [List.length_singleton]; omega⟩
theorem IdsI.stop {b q : Bl} {n j : Nat} {acc : List ID32} (h : IdsI b n j q acc) (e : j = 0 ∨ q.err ≠ 0) : idsL n b = (acc, q) := by
  obtain ⟨h1, h2, h3⟩ := h
  have : idsL j q = ([], q) := by
    cases j with
    | zero => rfl
    | succ j => rw [idsL, if_pos (by rcases e with e | e <;> first | omega | exact e)]
  rw [this] at h1 h2
  exact Prod.ext (by rw [h1]; simp) h2
def parZ (s : List UInt8) : (ID32 × Bl) × (Nat × Bl) × (List ID32 × Bl) := (idR ⟨s, 0⟩, intR (idR ⟨s, 0⟩).2 32768, idsF (intR (idR ⟨s, 0⟩).2 32768).2 8)
def parI (s : List UInt8) : Pt × List ID32 × Int :=
  if closeE (parZ s).2.2.2 ≠ 0 then (zP, [], closeE (parZ s).2.2.2)
  else if chkI ((parZ s).1.1, ((parZ s).2.1.1 : Int)) (parZ s).2.2.1 ≠ 0 then (zP, [], chkI ((parZ s).1.1, ((parZ s).2.1.1 : Int)) (parZ s).2.2.1)
  else (((parZ s).1.1, ((parZ s).2.1.1 : Int)), (parZ s).2.2.1, 0)

theorem bid_spec {bb : Nat} {b : Bl}  : Spec Tryz.prog 113 [.pointer (some ⟨bb, 0, none⟩)] [] [cl bb 233 (blR (b))] (fun v D' M' => v = .agg (iC (idR b).1).toArray ∧ D' = [] ∧ M' = [cl bb 233 (blR ((idR b).2))]) := by
 refine zI (n := 9) Tryz.func113 ?_
 intro σ D M
 have hi3 := zX (idR b).1
 refine z6 (z8 (zL rfl ze38 (fun b2 => ?_)))
 refine z7 (z4 (z6 (z8 (zL rfl ze38 (fun b3 => ?_)))))
 refine z7 (z4 (z6 (yy (clsL [1, 1, 2, 2]) qk ?_)))
 refine ze 0 rfl rfl (L.sliceArr rfl xj sz5 rfl Bd.no Bd.no qI qI ?_)
 refine zv (t := 4) (u := .slice (some ⟨b3, 0, none⟩) 32 32) rfl (by first | rfl | simp [cutA, Addr.add]) ?_
 refine zd (ze 1 rfl rfl (z5 rfl rfl (zd (zt 2 rfl (zC rfl (ev2 rfl rfl) qD qS (bbytes_spec (b := b) (n := 32) jD) ?_)))))
 rintro _ _ _ ⟨rfl, rfl, rfl⟩
 refine zy qA qA ?_
 refine zq rfl qD ?_
 refine zt 3 rfl (L.copyStr rfl yv sz5 rfl rfl rfl qU (id_set b) ?_)
 refine zq rfl qD ?_
 refine y3 qk ?_
 refine zU (A := cl bb 233 (blR ((bytB b ((32 : Nat) : Int)).2))) (B := cl bb 233 (blR ((idR b).2))) qP rfl ?_
 refine z4 (z6 (z8 (zp rfl zD rfl qN ?_)))
 refine zz zD rfl rfl qL qO qU qW ?_
 exact z7 (z4 (zj (xd rfl zD rfl qN ⟨rfl, rfl, rfl⟩ qD qF)))
theorem bidsr_spec {bb : Nat} {b : Bl} {top : Nat} (ht : top ≤ 1000000) : Spec Tryz.prog 115 [.pointer (some ⟨bb, 0, none⟩), .int .i64 (top : Int)] [] [cl bb 233 (blR (b))] (fun v D' M' => ∃ (a' : Option Addr) (n' c' : Nat), v = .slice a' n' c' ∧ ((idsF b top).1.length = n') ∧ D' = [] ∧ M' = [cl bb 233 (blR ((idsF b top).2)), own 32 38 a' n' c' (((idsF b top).1).map iC)]) := by
 refine zI (n := 32) Tryz.func115 ?_
 intro σ D M
 have hle := int_le b top
 obtain ⟨m, hm⟩ : ∃ m, m = (intR b top).1 := ⟨_, rfl⟩
 obtain ⟨z, hz⟩ : ∃ z, z = (intR b top).2 := ⟨_, rfl⟩
 have hF : idsF b top = (if (idsL m z).2.err ≠ 0 then [] else (idsL m z).1, (idsL m z).2) := by rw [hm, hz]; rfl
 rw [← hm] at hle
 refine z6 (z8 (z9 rfl rfl (z7 (z4 (z6 (z8 (z9 rfl rfl (z7 (yw (sz := 32) (e := 38) ?_)))))))))
 refine zU qP (show own 32 38 none 0 0 [] = own 32 38 none 0 0 ((([] : List ID32)).map iC) from rfl) ?_
 refine z4 (z6 (z6 (z8 (z5 rfl rfl (z5 rfl rfl (zC rfl (ev2 rfl rfl) qD qS (bint_spec (b := b) (top := top) jO) ?_))))))
 rintro _ _ _ ⟨rfl, rfl, rfl⟩
 refine zy qA qA ?_
 rw [← hm, ← hz]
 refine z9 rfl rfl (z7 (z4 (zu (zY (fun K' D' M' μ => ∃ (j n5 c5 : Nat) (a5 : Option Addr) (q : Bl) (acc : List ID32), (IdsI z m j q acc ∧ acc.length = n5) ∧ K' = [(6, .int .i64 (j : Int)), (5, .slice a5 n5 c5)] ∧ D' = [] ∧ M' = [cl bb 233 (blR (q)), own 32 38 a5 n5 c5 ((acc).map iC)] ∧ μ = 2 * j) (.cons (t := 0) rfl <| za _) (⟨m, 0, 0, none, z, [], ⟨.start, rfl⟩, rfl, rfl, rfl, rfl⟩) (.cons (t := 6) rfl <| .cons (t := 5) rfl <| za _) qD qS ?_))))
 rintro K1 D1 M1 m1 ⟨j, n5, c5, a5, q, acc, ⟨hI, hac⟩, rfl, rfl, rfl, rfl⟩
 refine zE qA qA qA ?_
 have hIl := hI.len
 refine z6 (z6 (z8 (z5 rfl rfl (yq rfl rfl rfl (z5 rfl rfl (yK (t := 12) rfl (fun h1 => ?_) (fun h1 => ?_)))))))
 ·try simp only [dq] at h1
  refine zf (dj := 12) rfl rfl rfl (z5 rfl rfl (zf (dj := 12) rfl rfl rfl (yi rfl rfl ?_)))
  refine zf (dj := 12) rfl rfl rfl (zg rfl fo233_1 rfl ?_)
  refine zf (dj := 12) rfl rfl rfl (zi rfl sc39 rfl qC ?_)
  refine zf (dj := 12) rfl rfl rfl (yn rfl rfl rfl (y6 rfl rfl rfl (z7 (z4 (zo rfl (fun h18 => ?_) (fun h18 => ?_))))))
  ·try simp only [dq] at h18
   obtain ⟨j2, rfl⟩ : ∃ j2, j = j2 + 1 := ⟨j - 1, by omega⟩
   have hqe : q.err = 0 := h18
   have hi3 := zX (idR q).1
   refine zm (z4 (z6 (zu (z8 (z5 rfl rfl (z5 rfl rfl (zC rfl (ev1 rfl) qD qS (bid_spec (b := q)) ?_)))))))
   rintro _ _ _ ⟨rfl, rfl, rfl⟩
   refine zy qA qA ?_
   refine zZ rfl bs30 jD (ym rfl rfl (by first | with_reducible assumption | (simp; done) | (simp only [List.length_map]; with_reducible assumption) | (simp [*]; done) | rfl) (Nat.le_of_ble_eq_true rfl) qR <| zB (out := []) rfl) (fun b24 => ?_)
   refine yz rfl zG el38 rfl rfl qP qM (by rw [List.append_nil]; exact zX _) (fun u hu => by rw [List.append_nil] at hu; exact one_iC u hu) qI qI (fun a25 c25 => ?_)
   refine z9 rfl rfl (z7 (zK (z4 (z8 (z5 rfl rfl (y5 rfl rfl rfl jO ?_))))))
   refine zv (t := 20) (u := .int .i64 (j2 : Int)) rfl (congrArg (Value.int .i64) jO) ?_
   refine z9 rfl rfl (z7 (z4 (yg _ ((acc ++ [(idR q).1]).map iC) qP (by rw [List.map_append, List.append_nil]; rfl) ?_)))
   exact zR ⟨j2, n5 + 1, _, _, (idR q).2, acc ++ [(idR q).1], ⟨hI.next hqe, by rw [List.length_append, hac]; rfl⟩, rfl, rfl, rfl, rfl⟩ qI (.cons (t := 6) rfl <| .cons (t := 5) rfl <| za _) (.cons (t := 0) rfl <| za _) qD qD qF
  ·try simp only [dq] at h18
   refine zN (zr (zr (zO (z4 (z6 (z6 (z8 (z5 rfl rfl (yi rfl rfl ?_)))))))))
   refine zg rfl fo233_1 rfl ?_
   refine zi rfl sc39 rfl qC ?_
   refine yJ rfl rfl rfl (z7 (z4 (zo rfl (fun h30 => ?_) (fun h30 => ?_))))
   ·try simp only [dq] at h30
    refine z6 (z8 (z9 rfl rfl (z7 (yw (sz := 32) (e := 38) ?_))))
    refine zU qP (show own 32 38 none 0 0 [] = own 32 38 none 0 0 ((([] : List ID32)).map iC) from rfl) ?_
    refine z4 (zj (zx ?_))
    have hst := hI.stop (by first | (left; omega) | (right; assumption))
    have hF2 : idsF b top = (if q.err ≠ 0 then [] else acc, q) := by rw [hF, hst]
    first | rw [if_pos h30] at hF2 | rw [if_neg h30] at hF2
    rw [hF2]
    exact zA rfl rfl ⟨_, _, _, rfl, (by first | rfl | exact hac), rfl, rfl⟩ qD qF
   ·try simp only [dq] at h30
    refine zm (z4 (z6 (z8 (z5 rfl rfl (z9 rfl rfl (z7 (z4 (zj ?_))))))))
    have hst := hI.stop (by first | (left; omega) | (right; assumption))
    have hF2 : idsF b top = (if q.err ≠ 0 then [] else acc, q) := by rw [hF, hst]
    first | rw [if_pos h30] at hF2 | rw [if_neg h30] at hF2
    rw [hF2]
    exact zA rfl rfl ⟨_, _, _, rfl, (by first | rfl | exact hac), rfl, rfl⟩ qD qF
 ·try simp only [dq] at h1
  refine zh (dj := 12) (c := false) rfl rfl rfl rfl rfl jD (zh (dj := 12) (c := false) rfl rfl rfl rfl rfl jD (zh (dj := 12) (c := false) rfl rfl rfl rfl rfl jD (zh (dj := 12) (c := false) rfl rfl rfl rfl rfl jD (zh (dj := 12) (c := false) rfl rfl rfl rfl rfl jD (y9 rfl rfl rfl (z7 (z4 (yR rfl rfl ?_))))))))
  refine zN (zr (zr (zO (z4 (z6 (z6 (z8 (z5 rfl rfl (yi rfl rfl ?_)))))))))
  refine zg rfl fo233_1 rfl ?_
  refine zi rfl sc39 rfl qC ?_
  refine yJ rfl rfl rfl (z7 (z4 (zo rfl (fun h30 => ?_) (fun h30 => ?_))))
  ·try simp only [dq] at h30
   refine z6 (z8 (z9 rfl rfl (z7 (yw (sz := 32) (e := 38) ?_))))
   refine zU qP (show own 32 38 none 0 0 [] = own 32 38 none 0 0 ((([] : List ID32)).map iC) from rfl) ?_
   refine z4 (zj (zx ?_))
   have hst := hI.stop (by first | (left; omega) | (right; assumption))
   have hF2 : idsF b top = (if q.err ≠ 0 then [] else acc, q) := by rw [hF, hst]
   first | rw [if_pos h30] at hF2 | rw [if_neg h30] at hF2
   rw [hF2]
   exact zA rfl rfl ⟨_, _, _, rfl, (by first | rfl | exact hac), rfl, rfl⟩ qD qF
  ·try simp only [dq] at h30
   refine zm (z4 (z6 (z8 (z5 rfl rfl (z9 rfl rfl (z7 (z4 (zj ?_))))))))
   have hst := hI.stop (by first | (left; omega) | (right; assumption))
   have hF2 : idsF b top = (if q.err ≠ 0 then [] else acc, q) := by rw [hF, hst]
   first | rw [if_pos h30] at hF2 | rw [if_neg h30] at hF2
   rw [hF2]
   exact zA rfl rfl ⟨_, _, _, rfl, (by first | rfl | exact hac), rfl, rfl⟩ qD qF
end Cv
set_option maxRecDepth 10000
namespace Cv
open Go Go.Proofs
/-! ## infos read, and their names sought: plain laws -/
theorem idsF_len (b : Bl) (top : Nat) : (idsF b top).1.length ≤ top := by
  have h1 := idsL_len (intR b top).1 (intR b top).2
  have h2 := int_le b top
  unfold idsF
  show (if _ then _ else _ : List ID32).length ≤ top
  split
  · simp
  · omega
theorem iparse_spec {s : List UInt8} (hs : s.length ≤ 1000000000) : Spec Tryz.prog 82 [S s] [] [] (fun v D' M' => ∃ (a' : Option Addr) (n' c' : Nat), v = .tuple #[.agg (inC (parI s).1 a' n' c').toArray, .int .i64 (parI s).2.2] ∧ ((parI s).2.1.length = n') ∧ D' = [rsl 32 a' n' c' ((parI s).2.1.map iC)] ∧ M' = []) := by
 refine zI (n := 31) Tryz.func82 ?_
 intro σ D M
 obtain ⟨z1, h1⟩ : ∃ z, z = idR ⟨s, 0⟩ := ⟨_, rfl⟩
 obtain ⟨z2, h2⟩ : ∃ z, z = intR z1.2 32768 := ⟨_, rfl⟩
 obtain ⟨z3, h3⟩ : ∃ z, z = idsF z2.2 8 := ⟨_, rfl⟩
 have hP : parI s = (if closeE z3.2 ≠ 0 then (zP, [], closeE z3.2) else if chkI (z1.1, (z2.1 : Int)) z3.1 ≠ 0 then (zP, [], chkI (z1.1, (z2.1 : Int)) z3.1) else ((z1.1, (z2.1 : Int)), z3.1, 0)) := by rw [h3, h2, h1]; rfl
 have hle := int_le z1.2 32768
 rw [← h2] at hle
 have hl8 := idsF_len z2.2 8
 rw [← h3] at hl8
 have hi3 := zX z1.1
 have hi1 := z1.1.2
 refine z6 (z8 (zL rfl ze54 (fun b2 => ?_)))
 refine z9 rfl rfl (z7 (z4 (z6 (z8 (z5 rfl rfl (zC rfl (ev1 rfl) qD qS (bopen_spec) ?_))))))
 rintro _ _ _ ⟨bb, rfl, rfl, rfl⟩
 refine zy qA qA ?_
 refine z9 rfl rfl (z7 (z4 (z6 (z8 (z5 rfl rfl (zC rfl (ev1 rfl) qD qS (bid_spec (b := ⟨s, 0⟩)) ?_))))))
 rintro _ _ _ ⟨rfl, rfl, rfl⟩
 refine zy qA qA ?_
 rw [← h1]
 refine z5 rfl rfl (zC rfl (ev2 rfl rfl) qD qS (bint_spec (b := z1.2) (top := 32768) jD) ?_)
 rintro _ _ _ ⟨rfl, rfl, rfl⟩
 refine zy qA qA ?_
 rw [← h2]
 refine ye rfl bu51 (ym rfl rfl (by first | with_reducible assumption | (simp; done) | (simp only [List.length_map]; with_reducible assumption) | (simp [*]; done) | rfl) (Nat.le_of_ble_eq_true rfl) qR <| zw rfl rfl rfl <| zB (out := []) rfl) ?_
 refine zv (t := 14) (u := .agg (ptC (z1.1, (z2.1 : Int))).toArray) rfl (by first | rfl | simp) ?_
 refine z5 rfl rfl (zC rfl (ev2 rfl rfl) qD qS (bidsr_spec (b := z2.2) (top := 8) jD) ?_)
 rintro _ _ _ ⟨ia, il, ic, rfl, hil, rfl, rfl⟩
 refine zy qA qA ?_
 rw [← h3] at hil ⊢
 have hin := inC_len (z1.1, (z2.1 : Int)) ia il ic
 have hpt := ptC_len (z1.1, (z2.1 : Int))
 refine ye rfl bu54 (ym rfl rfl (by first | with_reducible assumption | (simp; done) | (simp only [List.length_map]; with_reducible assumption) | (simp [*]; done) | rfl) (Nat.le_of_ble_eq_true rfl) qR <| zw rfl rfl rfl <| zB (out := []) rfl) ?_
 refine zv (t := 17) (u := .agg (inC (z1.1, (z2.1 : Int)) ia il ic).toArray) rfl (by first | rfl | simp) ?_
 refine zL rfl ze54 (fun b5 => ?_)
 refine zz ag54 rfl rfl qL qO qU qW ?_
 refine z7 (yf (A := cl b5 54 (inC (z1.1, (z2.1 : Int)) ia il ic)) qP ?_)
 refine yA (rows := z3.1.map iC) qP ?_
 refine z4 (z6 (z6 (z8 (z5 rfl rfl (zC rfl (ev1 rfl) qD qS (bclose_spec (b := z3.2)) ?_)))))
 rintro _ _ _ ⟨rfl, rfl, rfl⟩
 refine zy qA qA ?_
 refine z9 rfl rfl (z7 (z4 (z6 (z8 (z5 rfl rfl (yJ rfl rfl rfl (z7 (z4 (zo rfl (fun h21 => ?_) (fun h21 => ?_))))))))))
 ·try simp only [dq] at h21
  refine z6 (z8 (ye rfl bu54 (zB (out := (Value.int .u8 0 :: Value.int .u8 0 :: Value.int .u8 0 :: Value.int .u8 0 :: Value.int .u8 0 :: Value.int .u8 0 :: Value.int .u8 0 :: Value.int .u8 0 :: Value.int .u8 0 :: Value.int .u8 0 :: Value.int .u8 0 :: Value.int .u8 0 :: Value.int .u8 0 :: Value.int .u8 0 :: Value.int .u8 0 :: Value.int .u8 0 :: Value.int .u8 0 :: Value.int .u8 0 :: Value.int .u8 0 :: Value.int .u8 0 :: Value.int .u8 0 :: Value.int .u8 0 :: Value.int .u8 0 :: Value.int .u8 0 :: Value.int .u8 0 :: Value.int .u8 0 :: Value.int .u8 0 :: Value.int .u8 0 :: Value.int .u8 0 :: Value.int .u8 0 :: Value.int .u8 0 :: Value.int .u8 0 :: Value.int .i64 0 :: Value.slice none 0 0 :: [])) rfl) ?_))
  refine z5 rfl rfl (zz ag54 rfl rfl qL qO qU qW ?_)
  refine z9 rfl rfl (z7 (zU (A := cl b2 54 (Value.int .u8 0 :: Value.int .u8 0 :: Value.int .u8 0 :: Value.int .u8 0 :: Value.int .u8 0 :: Value.int .u8 0 :: Value.int .u8 0 :: Value.int .u8 0 :: Value.int .u8 0 :: Value.int .u8 0 :: Value.int .u8 0 :: Value.int .u8 0 :: Value.int .u8 0 :: Value.int .u8 0 :: Value.int .u8 0 :: Value.int .u8 0 :: Value.int .u8 0 :: Value.int .u8 0 :: Value.int .u8 0 :: Value.int .u8 0 :: Value.int .u8 0 :: Value.int .u8 0 :: Value.int .u8 0 :: Value.int .u8 0 :: Value.int .u8 0 :: Value.int .u8 0 :: Value.int .u8 0 :: Value.int .u8 0 :: Value.int .u8 0 :: Value.int .u8 0 :: Value.int .u8 0 :: Value.int .u8 0 :: Value.int .i64 0 :: Value.slice none 0 0 :: [])) (B := cl b2 54 (inC zP none 0 0)) qP rfl ?_))
  refine yw (sz := 32) (e := 38) ?_
  refine zU qP (show own 32 38 none 0 0 [] = own 32 38 none 0 0 (([] : List ID32).map iC) from rfl) ?_
  refine yA (rows := ([] : List ID32).map iC) qP ?_
  refine z4 (zj (zx ?_))
  rw [if_pos h21] at hP
  rw [hP]
  exact yD rfl ag54 rfl qN rfl ⟨none, 0, 0, rfl, rfl, rfl, rfl⟩ qD qF
 ·try simp only [dq] at h21
  refine zm (z4 (z6 (z6 (z8 (zp rfl ag54 rfl qN ?_)))))
  refine zW rfl (ev1 rfl) qD qS (icheck_spec (p := (z1.1, (z2.1 : Int))) (l := z3.1) jO) jF ?_
  refine z9 rfl rfl (z7 (z4 (z6 (z8 (z5 rfl rfl (yJ rfl rfl rfl (z7 (z4 (zo rfl (fun h27 => ?_) (fun h27 => ?_))))))))))
  ·try simp only [dq] at h27
   refine z6 (z8 (ye rfl bu54 (zB (out := (Value.int .u8 0 :: Value.int .u8 0 :: Value.int .u8 0 :: Value.int .u8 0 :: Value.int .u8 0 :: Value.int .u8 0 :: Value.int .u8 0 :: Value.int .u8 0 :: Value.int .u8 0 :: Value.int .u8 0 :: Value.int .u8 0 :: Value.int .u8 0 :: Value.int .u8 0 :: Value.int .u8 0 :: Value.int .u8 0 :: Value.int .u8 0 :: Value.int .u8 0 :: Value.int .u8 0 :: Value.int .u8 0 :: Value.int .u8 0 :: Value.int .u8 0 :: Value.int .u8 0 :: Value.int .u8 0 :: Value.int .u8 0 :: Value.int .u8 0 :: Value.int .u8 0 :: Value.int .u8 0 :: Value.int .u8 0 :: Value.int .u8 0 :: Value.int .u8 0 :: Value.int .u8 0 :: Value.int .u8 0 :: Value.int .i64 0 :: Value.slice none 0 0 :: [])) rfl) ?_))
   refine z5 rfl rfl (zz ag54 rfl rfl qL qO qU qW ?_)
   refine z9 rfl rfl (z7 (zU (A := cl b2 54 (Value.int .u8 0 :: Value.int .u8 0 :: Value.int .u8 0 :: Value.int .u8 0 :: Value.int .u8 0 :: Value.int .u8 0 :: Value.int .u8 0 :: Value.int .u8 0 :: Value.int .u8 0 :: Value.int .u8 0 :: Value.int .u8 0 :: Value.int .u8 0 :: Value.int .u8 0 :: Value.int .u8 0 :: Value.int .u8 0 :: Value.int .u8 0 :: Value.int .u8 0 :: Value.int .u8 0 :: Value.int .u8 0 :: Value.int .u8 0 :: Value.int .u8 0 :: Value.int .u8 0 :: Value.int .u8 0 :: Value.int .u8 0 :: Value.int .u8 0 :: Value.int .u8 0 :: Value.int .u8 0 :: Value.int .u8 0 :: Value.int .u8 0 :: Value.int .u8 0 :: Value.int .u8 0 :: Value.int .u8 0 :: Value.int .i64 0 :: Value.slice none 0 0 :: [])) (B := cl b2 54 (inC zP none 0 0)) qP rfl ?_))
   refine yw (sz := 32) (e := 38) ?_
   refine zU qP (show own 32 38 none 0 0 [] = own 32 38 none 0 0 (([] : List ID32).map iC) from rfl) ?_
   refine yA (rows := ([] : List ID32).map iC) qP ?_
   refine z4 (zj (zx ?_))
   rw [if_neg h21, if_pos h27] at hP
   rw [hP]
   exact yD rfl ag54 rfl qN rfl ⟨none, 0, 0, rfl, rfl, rfl, rfl⟩ qD qF
  ·try simp only [dq] at h27
   refine zm (z4 (z6 (z8 (zp rfl ag54 rfl qN ?_))))
   refine zz ag54 rfl rfl qL qO qU qW ?_
   refine z9 rfl rfl (z7 (z4 (zj ?_)))
   rw [if_neg h21, if_neg h27] at hP
   rw [hP]
   exact yD rfl ag54 rfl qN rfl ⟨_, _, _, rfl, hil, rfl, rfl⟩ qD qF
end Cv
