/-
  The walks: Build.
-/
import Derived.Test.YtcilkdnbbebjgaaGreatIa11
import Derived.Test.YtcilkdnbbebjgaaGreatCvLg
import Derived.Test.YtcilkdnbbebjgaaGreatProg
import Derived.KernelRfl
set_option linter.unusedVariables false
set_option linter.unusedSimpArgs false
set_option linter.unusedSectionVars false
set_option maxRecDepth 10000
namespace Cv
open Go Go.Proofs
/-! ## merkle.Build: the plain model -/
def zID : ID32 := ⟨List.replicate 32 0, rfl⟩
def zP : Pt := (zID, 0)
def lf (c : List UInt8) : Pt := (oI 1 c, (c.length : Int))
def lo (c : List UInt8) : Ob := (1, oI 1 c, c)
def lvR : Nat → Nat → List Pt → List Ob → List Pt × List Ob
  | 0, _, ps, os => (ps, os)
  | f + 1, k, ps, os => if k = 1 ∨ 1 < ps.length then lvR f (k + 1) (upP k ps) (os ++ upO k ps) else (ps, os)
theorem lvR_s {f k : Nat} {ps : List Pt} {os : List Ob} (h : k = 1 ∨ 1 < ps.length) : lvR (f + 1) k ps os = lvR f (k + 1) (upP k ps) (os ++ upO k ps) := by rw [lvR, if_pos h]
theorem lvR_z {f k : Nat} {ps : List Pt} {os : List Ob} (h : ¬(k = 1 ∨ 1 < ps.length)) : lvR f k ps os = (ps, os) := by
  cases f with
  | zero => rfl
  | succ f => rw [lvR, if_neg h]
def badC (c : List UInt8) : Prop := c = [] ∨ 256 < c.length
instance (c : List UInt8) : Decidable (badC c) := by unfold badC; infer_instance
def bldM (cs : List (List UInt8)) : Pt × List Ob × Int :=
  if ∃ c ∈ cs, badC c then (zP, [], 10)
  else if sizeI (cs.map lf) cs.length = 0 then (zP, [], 10)
  else if 32768 < sizeI (cs.map lf) cs.length then (zP, [], 5)
  else ((lvR (cs.length + 1) 1 (cs.map lf) (cs.map lo)).1.headD zP, (lvR (cs.length + 1) 1 (cs.map lf) (cs.map lo)).2, 0)
theorem bld_bad {cs : List (List UInt8)} {c : List UInt8} {i : Nat} (h : cs[i]? = some c) (hb : badC c) : bldM cs = (zP, [], 10) := by
  unfold bldM; rw [if_pos ⟨c, List.mem_of_getElem? h, hb⟩]
theorem no_bad {cs : List (List UInt8)} (h : ∀ c ∈ cs, ¬ badC c) : ¬ ∃ c ∈ cs, badC c := fun ⟨c, hc, hb⟩ => h c hc hb
theorem bld_0 {cs : List (List UInt8)} (h : ∀ c ∈ cs, ¬ badC c) (h0 : sizeI (cs.map lf) cs.length = 0) : bldM cs = (zP, [], 10) := by
  unfold bldM; rw [if_neg (no_bad h), if_pos h0]
theorem bld_5 {cs : List (List UInt8)} (h : ∀ c ∈ cs, ¬ badC c) (h0 : 32768 < sizeI (cs.map lf) cs.length) : bldM cs = (zP, [], 5) := by
  unfold bldM; rw [if_neg (no_bad h), if_neg (by omega), if_pos h0]
theorem bld_ok {cs : List (List UInt8)} (h : ∀ c ∈ cs, ¬ badC c) (h0 : sizeI (cs.map lf) cs.length ≠ 0) (h1 : sizeI (cs.map lf) cs.length ≤ 32768) {p : Pt} {os : List Ob} (e : lvR (cs.length + 1) 1 (cs.map lf) (cs.map lo) = ([p], os)) : bldM cs = (p, os, 0) := by
  unfold bldM; rw [if_neg (no_bad h), if_neg h0, if_neg (by omega), e]; rfl
theorem good_snoc {cs : List (List UInt8)} {c : List UInt8} {i : Nat} (h : cs[i]? = some c) (hg : ∀ x ∈ cs.take i, ¬ badC x) (hb : ¬ badC c) : ∀ x ∈ cs.take (i + 1), ¬ badC x := fun x hx => by
  rw [List.take_add_one, h] at hx
  rcases List.mem_append.1 hx with hx | hx
  · exact hg x hx
  · have : x = c := by simpa using hx
    rw [this]; exact hb
theorem lf_get {cs : List (List UInt8)} {c : List UInt8} {i : Nat} (h : cs[i]? = some c) : (cs.map lf)[i]? = some (lf c) := by rw [List.getElem?_map, h]; rfl
theorem good_size {cs : List (List UInt8)} (h : ∀ c ∈ cs, ¬ badC c) : ∀ p ∈ cs.map lf, 1 ≤ p.2 ∧ p.2 ≤ 256 := fun p hp => by
  obtain ⟨c, hc, rfl⟩ := List.mem_map.1 hp
  have := h c hc
  simp only [badC, not_or] at this
  have h1 := List.length_pos_iff.2 this.1
  simp only [lf]; omega
theorem size_ge {ps : List Pt} (h : ∀ p ∈ ps, 1 ≤ p.2) : ∀ i, i ≤ ps.length → (i : Int) ≤ sizeI ps i
  | 0, _ => by simp [sizeI]
  | i + 1, hi => by
    have hg : ps[i]? = some (gd ps i) := gd_get (by omega)
    have h1 := size_ge h i (by omega)
    have h2 := h _ (List.mem_of_getElem? hg)
    rw [sizeI_s hg]; omega
theorem size_mono {ps : List Pt} (h : ∀ p ∈ ps, 1 ≤ p.2) {i : Nat} : ∀ j, i ≤ j → j ≤ ps.length → sizeI ps i ≤ sizeI ps j
  | 0, hij, _ => by have : i = 0 := by omega
                    subst this; exact Int.le_refl _
  | j + 1, hij, hj => by
    rcases Nat.lt_or_ge j i with hji | hji
    · have : i = j + 1 := by omega
      subst this; exact Int.le_refl _
    · have hg : ps[j]? = some (gd ps j) := gd_get (by omega)
      have h2 := h _ (List.mem_of_getElem? hg)
      have := size_mono h j hji (by omega)
      rw [sizeI_s hg]; omega
theorem size_mem {ps : List Pt} (h : ∀ p ∈ ps, 1 ≤ p.2) {p : Pt} (hp : p ∈ ps) : p.2 ≤ sizeP ps := by
  obtain ⟨i, hi, e⟩ := List.mem_iff_getElem.1 hp
  have hg : ps[i]? = some p := by rw [List.getElem?_eq_getElem hi, e]
  have h1 := size_mono h (i := i + 1) ps.length (by omega) (Nat.le_refl _)
  have h2 := size_ge h i (by omega)
  rw [sizeI_s hg] at h1
  unfold sizeP; omega
theorem sizeI_app {l m : List Pt} : sizeP (l ++ m) = sizeP l + sizeP m := by
  unfold sizeP sizeI
  rw [List.take_of_length_le (Nat.le_refl _), List.take_of_length_le (Nat.le_refl _), List.take_of_length_le (Nat.le_refl _), List.foldl_append, foldl_add]
theorem size_take {ps : List Pt} {i : Nat} : sizeP (ps.take i) = sizeI ps i := by
  unfold sizeP sizeI; rw [List.take_of_length_le (Nat.le_refl _)]
theorem size_grI {k : Nat} {ps : List Pt} : ∀ i, sizeP ((grI ps i).map (upt k)) = sizeI ps (8 * i)
  | 0 => rfl
  | i + 1 => by
    rw [grI_s, List.map_append, sizeI_app, size_grI i, ← size_take, ← size_take, show 8 * (i + 1) = 8 * i + 8 by omega, List.take_add, sizeI_app]
    simp only [sizeP, sizeI, List.map_cons, List.map_nil, upt, grp, List.take_of_length_le (Nat.le_refl _), List.foldl_cons, List.foldl_nil, List.length_cons, List.length_nil]
    simp
theorem size_up {k : Nat} {ps : List Pt} : sizeP (upP k ps) = sizeP ps := by
  have h : gN ps.length = (ps.length + 7) / 8 := rfl
  unfold upP grps
  rw [size_grI, sizeP, sizeI, sizeI, List.take_of_length_le (by omega), List.take_of_length_le (Nat.le_refl _)]
theorem up_pos {k : Nat} {ps : List Pt} (h : ∀ p ∈ ps, 1 ≤ p.2) : ∀ p ∈ upP k ps, 1 ≤ p.2 := fun p hp => by
  obtain ⟨g, hg, rfl⟩ := List.mem_map.1 hp
  obtain ⟨i, hi, rfl⟩ := List.mem_map.1 hg
  have h1 : gN ps.length = (ps.length + 7) / 8 := rfl
  have h2 := List.mem_range.1 hi
  have h3 := size_ge (ps := grp ps i) (fun q hq => h q (grp_mem hq)) _ (Nat.le_refl _)
  have h4 := @grp_len ps i
  show 1 ≤ sizeP (grp ps i)
  unfold sizeP; omega
theorem size_good {cs : List (List UInt8)} {i : Nat} (h : ∀ c ∈ cs.take i, ¬ badC c) (hi : i ≤ cs.length) : 0 ≤ sizeI (cs.map lf) i ∧ sizeI (cs.map lf) i ≤ 256 * i := by
  have h1 := sizeI_in (ps := (cs.take i).map lf) (B := 256) (fun p hp => by have := good_size h p hp; omega) i (by rw [List.length_map, List.length_take]; omega)
  have h2 : sizeI ((cs.take i).map lf) i = sizeI (cs.map lf) i := by
    unfold sizeI; rw [← List.map_take, ← List.map_take, List.take_take, Nat.min_self]
  rw [h2] at h1; exact h1

set_option maxHeartbeats 400000 in
theorem mbuild_spec {n c : Nat} {a : Option Addr} {cs : List (List UInt8)} (hn : n ≤ 1000001) : Spec Tryz.prog 38 [.slice a n c] [rsl 1 a n c (cs.map ys)] [] (fun v D' M' => ∃ (a1 : Option Addr) (n1 c1 : Nat), v = .tuple #[.agg (ptC (bldM cs).1).toArray, .slice a1 n1 c1, .int .i64 (bldM cs).2.2] ∧ ((bldM cs).2.1.length = n1) ∧ D' = [] ∧ M' = [own 34 56 a1 n1 c1 (((bldM cs).2.1).map obC)]) := by
 refine Spec.intro (n := 78) Tryz.func38 rfl rfl (by decide) (Nat.le_of_ble_eq_true rfl) rfl (fun _ => qA) (fun _ => qA) ?_
 intro σ D M
 refine T.rslLen2 (rows := cs.map ys) qM (fun hpl hpc => ?_)
 rw [List.length_map] at hpl
 
 refine T.seq (T.region ?_)
 refine L.alloc rfl ze33 (fun b2 => ?_)
 refine L.assign rfl rfl ?_
 refine L.assign rfl rfl ?_
 refine L.nil ?_
 refine T.eqv (A := cl b2 33 (Value.int .u8 0 :: Value.int .u8 0 :: Value.int .u8 0 :: Value.int .u8 0 :: Value.int .u8 0 :: Value.int .u8 0 :: Value.int .u8 0 :: Value.int .u8 0 :: Value.int .u8 0 :: Value.int .u8 0 :: Value.int .u8 0 :: Value.int .u8 0 :: Value.int .u8 0 :: Value.int .u8 0 :: Value.int .u8 0 :: Value.int .u8 0 :: Value.int .u8 0 :: Value.int .u8 0 :: Value.int .u8 0 :: Value.int .u8 0 :: Value.int .u8 0 :: Value.int .u8 0 :: Value.int .u8 0 :: Value.int .u8 0 :: Value.int .u8 0 :: Value.int .u8 0 :: Value.int .u8 0 :: Value.int .u8 0 :: Value.int .u8 0 :: Value.int .u8 0 :: Value.int .u8 0 :: Value.int .u8 0 :: Value.int .i64 0 :: [])) (B := cl b2 33 (ptC zP)) qP rfl ?_
 refine T.thenN (T.seq (T.region ?_))
 refine L.assign rfl rfl ?_
 refine L.nil ?_
 refine T.newOwn (sz := 34) (e := 56) ?_
 refine T.eqv qP (show own 34 56 none 0 0 [] = own 34 56 none 0 0 (((cs.take 0).map lo).map obC) from rfl) ?_
 refine T.thenN (T.seq (T.region ?_))
 refine L.assign rfl rfl ?_
 refine L.nil ?_
 refine T.newOwn (sz := 33) (e := 33) ?_
 refine T.eqv qP (show own 33 33 none 0 0 [] = own 33 33 none 0 0 (((cs.take 0).map lf).map ptC) from rfl) ?_
 refine T.thenN (T.seq (T.region ?_))
 refine L.assign rfl rfl ?_
 refine L.nil ?_
 refine T.thenN (T.seq (T.seq (T.region ?_)))
 refine L.move rfl rfl ?_
 refine L.lenSl rfl Tryz.underlying25 rfl ?_
 refine L.move rfl rfl ?_
 refine L.nil ?_
 refine T.thenN (T.block ?_)
 refine T.loop (fun K' D' M' μ => ∃ (i c5 c6 : Nat) (a5 a6 : Option Addr), (i ≤ n ∧ ∀ x ∈ cs.take i, ¬ badC x) ∧ K' = [(16, .int .i64 (i : Int)), (5, .slice a5 i c5), (6, .slice a6 i c6), (7, .int .i64 (sizeI (cs.map lf) i))] ∧ D' = [] ∧ M' = [cl b2 33 (ptC zP), own 34 56 a5 i c5 (((cs.take i).map lo).map obC), own 33 33 a6 i c6 (((cs.take i).map lf).map ptC)] ∧ μ = n - i) (.cons (t := 2) rfl <| .cons (t := 14) rfl <| .cons (t := 15) rfl <| SubK.nil _) (⟨0, 0, 0, none, none, ⟨Nat.zero_le _, by simp⟩, rfl, rfl, rfl, rfl⟩) (.cons (t := 16) rfl <| .cons (t := 5) rfl <| .cons (t := 6) rfl <| .cons (t := 7) rfl <| SubK.nil _) qD qS ?_
 rintro K1 D1 M1 m1 ⟨i, c5, c6, a5, a6, ⟨hi, hgd⟩, rfl, rfl, rfl, rfl⟩
 refine T.norm3 qA qA qA ?_
 refine T.seq (T.region ?_)
 refine L.ltI rfl rfl rfl ?_
 refine L.nil ?_
 refine T.thenN (T.seq ?_)
 refine T.cond rfl (fun h17 => ?_) (fun h17 => ?_)
 ·try simp only [dq] at h17
  refine T.skip (T.thenN (T.seq (T.block (T.seq ?_))))
  have hgi : cs[i]? = some (gd cs i) := gd_get (by omega)
  obtain ⟨x, hx_⟩ : ∃ x, x = gd cs i := ⟨_, rfl⟩
  rw [← hx_] at hgi
  have hgr : (cs.map ys)[i]? = some (ys x) := map_get hgi
  refine T.region ?_
  refine L.idx (i := i) rfl Tryz.underlying25 sz9 rfl rfl qM (by first | rfl | omega | (simp; done)) qG (fun b18 o18 => ?_)
  refine L.load rfl sc9 rfl qC ?_
  refine L.assign rfl rfl ?_
  refine L.nil ?_
  refine T.thenN (T.seq (T.seq (T.region ?_)))
  refine L.move rfl rfl ?_
  refine L.eqS rfl rfl rfl ?_
  refine L.move rfl rfl ?_
  refine L.part (t := 22) rfl (fun h1 => ?_) (fun h1 => ?_)
  ·try simp only [dq] at h1
   refine L.guardF (dj := 22) (c := true) rfl rfl rfl rfl rfl (by decide) ?_
   refine L.guardF (dj := 22) (c := true) rfl rfl rfl rfl rfl (by decide) ?_
   refine L.guardF (dj := 22) (c := true) rfl rfl rfl rfl rfl (by decide) ?_
   refine L.pickT rfl rfl rfl ?_
   refine L.nil ?_
   refine T.thenN ?_
   refine T.condT rfl rfl ?_
   refine T.seq (T.region ?_)
   refine L.build rfl bu33 (BP.doneE (out := (Value.int .u8 0 :: Value.int .u8 0 :: Value.int .u8 0 :: Value.int .u8 0 :: Value.int .u8 0 :: Value.int .u8 0 :: Value.int .u8 0 :: Value.int .u8 0 :: Value.int .u8 0 :: Value.int .u8 0 :: Value.int .u8 0 :: Value.int .u8 0 :: Value.int .u8 0 :: Value.int .u8 0 :: Value.int .u8 0 :: Value.int .u8 0 :: Value.int .u8 0 :: Value.int .u8 0 :: Value.int .u8 0 :: Value.int .u8 0 :: Value.int .u8 0 :: Value.int .u8 0 :: Value.int .u8 0 :: Value.int .u8 0 :: Value.int .u8 0 :: Value.int .u8 0 :: Value.int .u8 0 :: Value.int .u8 0 :: Value.int .u8 0 :: Value.int .u8 0 :: Value.int .u8 0 :: Value.int .u8 0 :: Value.int .i64 0 :: [])) rfl) ?_
   refine L.storeA ag33 rfl rfl qL qO qU qW ?_
   refine L.assign rfl rfl ?_
   refine L.assign rfl rfl ?_
   refine L.nil ?_
   refine T.eqv (A := cl b2 33 (Value.int .u8 0 :: Value.int .u8 0 :: Value.int .u8 0 :: Value.int .u8 0 :: Value.int .u8 0 :: Value.int .u8 0 :: Value.int .u8 0 :: Value.int .u8 0 :: Value.int .u8 0 :: Value.int .u8 0 :: Value.int .u8 0 :: Value.int .u8 0 :: Value.int .u8 0 :: Value.int .u8 0 :: Value.int .u8 0 :: Value.int .u8 0 :: Value.int .u8 0 :: Value.int .u8 0 :: Value.int .u8 0 :: Value.int .u8 0 :: Value.int .u8 0 :: Value.int .u8 0 :: Value.int .u8 0 :: Value.int .u8 0 :: Value.int .u8 0 :: Value.int .u8 0 :: Value.int .u8 0 :: Value.int .u8 0 :: Value.int .u8 0 :: Value.int .u8 0 :: Value.int .u8 0 :: Value.int .u8 0 :: Value.int .i64 0 :: [])) (B := cl b2 33 (ptC zP)) qP rfl ?_
   refine T.newOwn (sz := 34) (e := 56) ?_
   refine T.eqv qP (show own 34 56 none 0 0 [] = own 34 56 none 0 0 ((([] : List Ob)).map obC) from rfl) ?_
   refine T.thenN (T.ret ?_)
   refine T.thenR ?_
   refine T.blkR ?_
   refine T.thenR ?_
   refine T.thenR ?_
   refine T.blkR ?_
   refine T.thenR ?_
   rw [bld_bad hgi (Or.inl h1)]
   exact T.retATT rfl ag33 rfl qN rfl rfl ⟨_, _, _, rfl, rfl, rfl, rfl⟩ qD qF
  ·try simp only [dq] at h1
   refine L.guardT (dj := 22) rfl rfl rfl ?_
   refine L.move rfl rfl ?_
   refine L.guardT (dj := 22) rfl rfl rfl ?_
   refine L.lenStr rfl Tryz.underlying9 rfl ?_
   refine L.guardT (dj := 22) rfl rfl rfl ?_
   refine L.gtI rfl rfl rfl ?_
   refine L.pickF rfl rfl rfl ?_
   refine L.nil ?_
   refine T.thenN ?_
   refine T.cond rfl (fun h26 => ?_) (fun h26 => ?_)
   ·try simp only [dq] at h26
    refine T.seq (T.region ?_)
    refine L.build rfl bu33 (BP.doneE (out := (Value.int .u8 0 :: Value.int .u8 0 :: Value.int .u8 0 :: Value.int .u8 0 :: Value.int .u8 0 :: Value.int .u8 0 :: Value.int .u8 0 :: Value.int .u8 0 :: Value.int .u8 0 :: Value.int .u8 0 :: Value.int .u8 0 :: Value.int .u8 0 :: Value.int .u8 0 :: Value.int .u8 0 :: Value.int .u8 0 :: Value.int .u8 0 :: Value.int .u8 0 :: Value.int .u8 0 :: Value.int .u8 0 :: Value.int .u8 0 :: Value.int .u8 0 :: Value.int .u8 0 :: Value.int .u8 0 :: Value.int .u8 0 :: Value.int .u8 0 :: Value.int .u8 0 :: Value.int .u8 0 :: Value.int .u8 0 :: Value.int .u8 0 :: Value.int .u8 0 :: Value.int .u8 0 :: Value.int .u8 0 :: Value.int .i64 0 :: [])) rfl) ?_
    refine L.storeA ag33 rfl rfl qL qO qU qW ?_
    refine L.assign rfl rfl ?_
    refine L.assign rfl rfl ?_
    refine L.nil ?_
    refine T.eqv (A := cl b2 33 (Value.int .u8 0 :: Value.int .u8 0 :: Value.int .u8 0 :: Value.int .u8 0 :: Value.int .u8 0 :: Value.int .u8 0 :: Value.int .u8 0 :: Value.int .u8 0 :: Value.int .u8 0 :: Value.int .u8 0 :: Value.int .u8 0 :: Value.int .u8 0 :: Value.int .u8 0 :: Value.int .u8 0 :: Value.int .u8 0 :: Value.int .u8 0 :: Value.int .u8 0 :: Value.int .u8 0 :: Value.int .u8 0 :: Value.int .u8 0 :: Value.int .u8 0 :: Value.int .u8 0 :: Value.int .u8 0 :: Value.int .u8 0 :: Value.int .u8 0 :: Value.int .u8 0 :: Value.int .u8 0 :: Value.int .u8 0 :: Value.int .u8 0 :: Value.int .u8 0 :: Value.int .u8 0 :: Value.int .u8 0 :: Value.int .i64 0 :: [])) (B := cl b2 33 (ptC zP)) qP rfl ?_
    refine T.newOwn (sz := 34) (e := 56) ?_
    refine T.eqv qP (show own 34 56 none 0 0 [] = own 34 56 none 0 0 ((([] : List Ob)).map obC) from rfl) ?_
    refine T.thenN (T.ret ?_)
    refine T.thenR ?_
    refine T.blkR ?_
    refine T.thenR ?_
    refine T.thenR ?_
    refine T.blkR ?_
    refine T.thenR ?_
    rw [bld_bad hgi (Or.inr (by omega))]
    exact T.retATT rfl ag33 rfl qN rfl rfl ⟨_, _, _, rfl, rfl, rfl, rfl⟩ qD qF
   ·try simp only [dq] at h26
    refine T.skip (T.thenN (T.seq ?_))
    have hob := obC_len (1, oI 1 x, x)
    have ho32 := (oI 1 x).2
    have hlf := ptC_len (lf x)
    refine T.region ?_
    refine L.move rfl rfl ?_
    refine L.callF rfl (evs.cons rfl <| evs.cons rfl <| evs.nil) qD qS (make_spec (k := 1) (tx := x) (by omega)) (by rintro u D1 M1 ⟨rfl, rfl, rfl⟩; exact ⟨rfl, _, qA, qF⟩) ?_
    refine L.alloc rfl ze56 (fun b10 => ?_)
    refine L.storeA ag56 rfl rfl qL qO qU qW ?_
    refine L.nil ?_
    refine T.freeze (A := cl b10 56 (obC (1, oI 1 x, x))) qP ?_
    refine T.thenN (T.seq (T.region ?_))
    refine L.move rfl rfl ?_
    refine L.loadA rfl ag56 rfl qN ?_
    refine L.buildSlice rfl bs36 (by decide) (BP.agg rfl rfl (by first | with_reducible assumption | (simp; done) | (simp only [List.length_map]; with_reducible assumption) | (simp [*]; done) | rfl) (Nat.le_of_ble_eq_true rfl) qR <| BP.doneE (out := []) rfl) (fun b32 => ?_)
    refine L.append1 rfl Tryz.underlying36 el56 rfl rfl qP qM (by rw [List.append_nil]; exact hob) (fun u hu => by rw [List.append_nil] at hu; exact one_ob (o := (1, oI 1 x, x)) u hu) qI qI (fun a33 c33 => ?_)
    refine L.assign rfl rfl ?_
    refine L.nil ?_
    refine T.thenN (T.seq (T.region ?_))
    refine L.move rfl rfl ?_
    first | refine L.field0 rfl fo56_1 rfl ?_ | refine L.field rfl fo56_1 rfl ?_
    refine L.loadA rfl ag31 rfl qN ?_
    refine L.move rfl rfl ?_
    refine L.lenStr rfl Tryz.underlying9 rfl ?_
    refine L.build rfl bu33 (BP.agg rfl rfl (by first | with_reducible assumption | (simp; done) | (simp only [List.length_map]; with_reducible assumption) | (simp [*]; done) | rfl) (Nat.le_of_ble_eq_true rfl) qR <| BP.one rfl rfl rfl <| BP.doneE (out := []) rfl) ?_
    refine L.known (t := 39) (u := .agg (ptC (lf x)).toArray) rfl (by first | rfl | simp) ?_
    refine L.buildSlice rfl bs144 (by decide) (BP.agg rfl rfl (by first | with_reducible assumption | (simp; done) | (simp only [List.length_map]; with_reducible assumption) | (simp [*]; done) | rfl) (Nat.le_of_ble_eq_true rfl) qR <| BP.doneE (out := []) rfl) (fun b40 => ?_)
    refine L.append1 rfl Tryz.underlying144 el33 rfl rfl qP qM (by rw [List.append_nil]; exact hlf) (fun u hu => by rw [List.append_nil] at hu; exact one_pt (p := lf x) u hu) qI qI (fun a41 c41 => ?_)
    refine L.assign rfl rfl ?_
    refine L.nil ?_
    refine T.thenN ?_
    have hsz := sizeI_s (lf_get hgi)
    rw [show (lf x).2 = (x.length : Int) from rfl] at hsz
    have hsg := size_good hgd (by omega)
    refine T.region ?_
    refine L.move rfl rfl ?_
    refine L.move rfl rfl ?_
    refine L.lenStr rfl Tryz.underlying9 rfl ?_
    refine L.addN rfl rfl rfl (by omega) ?_
    refine L.known (t := 45) (u := .int .i64 (sizeI (cs.map lf) (i + 1))) rfl (congrArg (Value.int .i64) hsz.symm) ?_
    refine L.assign rfl rfl ?_
    refine L.nil ?_
    refine T.blkN (T.thenN (T.region ?_))
    refine L.addN rfl rfl rfl (by omega) ?_
    refine L.move rfl rfl ?_
    refine L.nil ?_
    refine T.thenN ?_
    refine T.ownEq (sz := 34) _ ((cs.take (i + 1)).map lo |>.map obC) qP (by rw [List.take_add_one, hgi]; simp [lo]) ?_
    refine T.ownEq (sz := 33) _ ((cs.take (i + 1)).map lf |>.map ptC) qP (by rw [List.take_add_one, hgi]; simp [lf]) ?_
    exact T.back ⟨i + 1, _, _, _, _, ⟨by omega, good_snoc hgi hgd (by simp only [badC, not_or]; exact ⟨h1, by omega⟩)⟩, rfl, rfl, rfl, rfl⟩ qI (.cons (t := 16) rfl <| .cons (t := 5) rfl <| .cons (t := 6) rfl <| .cons (t := 7) rfl <| SubK.nil _) (.cons (t := 2) rfl <| .cons (t := 14) rfl <| .cons (t := 15) rfl <| SubK.nil _) qD qD qF
 ·try simp only [dq] at h17
  subst hpl
  obtain rfl : i = cs.length := by omega
  rw [List.take_length] at hgd
  rw [List.take_length]
  refine T.exit (T.thenX (T.thenX (T.blkX (T.thenN (T.seq (T.block (T.seq (T.region ?_))))))))
  refine L.move rfl rfl ?_
  refine L.eqI rfl rfl rfl ?_
  refine L.assign rfl rfl ?_
  refine L.nil ?_
  refine T.thenN ?_
  refine T.cond rfl (fun h47 => ?_) (fun h47 => ?_)
  ·try simp only [dq] at h47
   refine T.seq (T.region ?_)
   refine L.build rfl bu33 (BP.doneE (out := (Value.int .u8 0 :: Value.int .u8 0 :: Value.int .u8 0 :: Value.int .u8 0 :: Value.int .u8 0 :: Value.int .u8 0 :: Value.int .u8 0 :: Value.int .u8 0 :: Value.int .u8 0 :: Value.int .u8 0 :: Value.int .u8 0 :: Value.int .u8 0 :: Value.int .u8 0 :: Value.int .u8 0 :: Value.int .u8 0 :: Value.int .u8 0 :: Value.int .u8 0 :: Value.int .u8 0 :: Value.int .u8 0 :: Value.int .u8 0 :: Value.int .u8 0 :: Value.int .u8 0 :: Value.int .u8 0 :: Value.int .u8 0 :: Value.int .u8 0 :: Value.int .u8 0 :: Value.int .u8 0 :: Value.int .u8 0 :: Value.int .u8 0 :: Value.int .u8 0 :: Value.int .u8 0 :: Value.int .u8 0 :: Value.int .i64 0 :: [])) rfl) ?_
   refine L.storeA ag33 rfl rfl qL qO qU qW ?_
   refine L.assign rfl rfl ?_
   refine L.assign rfl rfl ?_
   refine L.nil ?_
   refine T.eqv (A := cl b2 33 (Value.int .u8 0 :: Value.int .u8 0 :: Value.int .u8 0 :: Value.int .u8 0 :: Value.int .u8 0 :: Value.int .u8 0 :: Value.int .u8 0 :: Value.int .u8 0 :: Value.int .u8 0 :: Value.int .u8 0 :: Value.int .u8 0 :: Value.int .u8 0 :: Value.int .u8 0 :: Value.int .u8 0 :: Value.int .u8 0 :: Value.int .u8 0 :: Value.int .u8 0 :: Value.int .u8 0 :: Value.int .u8 0 :: Value.int .u8 0 :: Value.int .u8 0 :: Value.int .u8 0 :: Value.int .u8 0 :: Value.int .u8 0 :: Value.int .u8 0 :: Value.int .u8 0 :: Value.int .u8 0 :: Value.int .u8 0 :: Value.int .u8 0 :: Value.int .u8 0 :: Value.int .u8 0 :: Value.int .u8 0 :: Value.int .i64 0 :: [])) (B := cl b2 33 (ptC zP)) qP rfl ?_
   refine T.newOwn (sz := 34) (e := 56) ?_
   refine T.eqv qP (show own 34 56 none 0 0 [] = own 34 56 none 0 0 ((([] : List Ob)).map obC) from rfl) ?_
   refine T.thenN (T.ret (T.blkR ?_))
   refine T.thenR ?_
   rw [bld_0 hgd h47]
   exact T.retATT rfl ag33 rfl qN rfl rfl ⟨_, _, _, rfl, rfl, rfl, rfl⟩ qD qF
  ·try simp only [dq] at h47
   refine T.seq (T.region ?_)
   refine L.move rfl rfl ?_
   refine L.gtI rfl rfl rfl ?_
   refine L.assign rfl rfl ?_
   refine L.nil ?_
   refine T.thenN ?_
   refine T.cond rfl (fun h51 => ?_) (fun h51 => ?_)
   ·try simp only [dq] at h51
    refine T.seq (T.region ?_)
    refine L.build rfl bu33 (BP.doneE (out := (Value.int .u8 0 :: Value.int .u8 0 :: Value.int .u8 0 :: Value.int .u8 0 :: Value.int .u8 0 :: Value.int .u8 0 :: Value.int .u8 0 :: Value.int .u8 0 :: Value.int .u8 0 :: Value.int .u8 0 :: Value.int .u8 0 :: Value.int .u8 0 :: Value.int .u8 0 :: Value.int .u8 0 :: Value.int .u8 0 :: Value.int .u8 0 :: Value.int .u8 0 :: Value.int .u8 0 :: Value.int .u8 0 :: Value.int .u8 0 :: Value.int .u8 0 :: Value.int .u8 0 :: Value.int .u8 0 :: Value.int .u8 0 :: Value.int .u8 0 :: Value.int .u8 0 :: Value.int .u8 0 :: Value.int .u8 0 :: Value.int .u8 0 :: Value.int .u8 0 :: Value.int .u8 0 :: Value.int .u8 0 :: Value.int .i64 0 :: [])) rfl) ?_
    refine L.storeA ag33 rfl rfl qL qO qU qW ?_
    refine L.assign rfl rfl ?_
    refine L.assign rfl rfl ?_
    refine L.nil ?_
    refine T.eqv (A := cl b2 33 (Value.int .u8 0 :: Value.int .u8 0 :: Value.int .u8 0 :: Value.int .u8 0 :: Value.int .u8 0 :: Value.int .u8 0 :: Value.int .u8 0 :: Value.int .u8 0 :: Value.int .u8 0 :: Value.int .u8 0 :: Value.int .u8 0 :: Value.int .u8 0 :: Value.int .u8 0 :: Value.int .u8 0 :: Value.int .u8 0 :: Value.int .u8 0 :: Value.int .u8 0 :: Value.int .u8 0 :: Value.int .u8 0 :: Value.int .u8 0 :: Value.int .u8 0 :: Value.int .u8 0 :: Value.int .u8 0 :: Value.int .u8 0 :: Value.int .u8 0 :: Value.int .u8 0 :: Value.int .u8 0 :: Value.int .u8 0 :: Value.int .u8 0 :: Value.int .u8 0 :: Value.int .u8 0 :: Value.int .u8 0 :: Value.int .i64 0 :: [])) (B := cl b2 33 (ptC zP)) qP rfl ?_
    refine T.newOwn (sz := 34) (e := 56) ?_
    refine T.eqv qP (show own 34 56 none 0 0 [] = own 34 56 none 0 0 ((([] : List Ob)).map obC) from rfl) ?_
    refine T.thenN (T.ret (T.blkR ?_))
    refine T.thenR ?_
    rw [bld_5 hgd h51]
    exact T.retATT rfl ag33 rfl qN rfl rfl ⟨_, _, _, rfl, rfl, rfl, rfl⟩ qD qF
   ·try simp only [dq] at h51
    have hps := good_size hgd
    have hpos : ∀ p ∈ cs.map lf, 1 ≤ p.2 := fun p hp => (hps p hp).1
    have h1n : 1 ≤ cs.length := Nat.pos_of_ne_zero fun e => h47 (by rw [e]; rfl)
    have hge := size_ge hpos cs.length (by rw [List.length_map]; exact Nat.le_refl _)
    have hsm : sizeP (cs.map lf) ≤ 32768 := by unfold sizeP; rw [List.length_map]; omega
    refine T.skip (T.blkN (T.thenN (T.seq (T.seq (T.region ?_)))))
    refine L.assign rfl rfl ?_
    refine L.nil ?_
    refine T.thenN (T.block ?_)
    refine T.loop (fun K' D' M' μ => ∃ (k f n5 n6 c5 c6 : Nat) (a5 a6 : Option Addr) (ps : List Pt) (os : List Ob), ((ps.length = n6 ∧ os.length = n5) ∧ (1 ≤ k ∧ 1 ≤ n6 ∧ k + f ≤ 40000 ∧ n5 ≤ 40000 * k) ∧ ((k = 1 ∧ n6 + 1 ≤ f) ∨ (2 ≤ k ∧ n6 ≤ f)) ∧ lvR f k ps os = lvR (cs.length + 1) 1 (cs.map lf) (cs.map lo) ∧ (∀ p ∈ ps, 1 ≤ p.2) ∧ sizeP ps ≤ 32768) ∧ K' = [(11, .int .i64 (k : Int)), (5, .slice a5 n5 c5), (6, .slice a6 n6 c6)] ∧ D' = [] ∧ M' = [cl b2 33 (ptC zP), own 34 56 a5 n5 c5 ((os).map obC), own 33 33 a6 n6 c6 ((ps).map ptC)] ∧ μ = 2 * f) (.cons (t := 2) rfl <| SubK.nil _) (⟨1, cs.length + 1, cs.length, cs.length, _, _, _, _, cs.map lf, cs.map lo, ⟨⟨List.length_map _, List.length_map _⟩, ⟨Nat.le_refl _, h1n, by omega, by omega⟩, Or.inl ⟨rfl, Nat.le_refl _⟩, rfl, hpos, hsm⟩, rfl, rfl, rfl, rfl⟩) (.cons (t := 11) rfl <| .cons (t := 5) rfl <| .cons (t := 6) rfl <| SubK.nil _) qD qS ?_
    rintro K1 D1 M1 m1 ⟨k, f, n5, n6, c5, c6, a5, a6, ps, os, ⟨⟨hpn, hon_⟩, ⟨hk1, hn6, hkf, hn5⟩, hf, hlv, hpos, hsm⟩, rfl, rfl, rfl, rfl⟩
    refine T.norm3 qA qA qA ?_
    refine T.seq (T.seq (T.region ?_))
    refine L.move rfl rfl ?_
    refine L.eqI rfl rfl rfl ?_
    refine L.move rfl rfl ?_
    refine L.part (t := 57) rfl (fun h2 => ?_) (fun h2 => ?_)
    ·try simp only [dq] at h2
     refine L.guardF (dj := 57) (c := true) rfl rfl rfl rfl rfl (by decide) ?_
     refine L.guardF (dj := 57) (c := true) rfl rfl rfl rfl rfl (by decide) ?_
     refine L.guardF (dj := 57) (c := true) rfl rfl rfl rfl rfl (by decide) ?_
     refine L.pickT rfl rfl rfl ?_
     refine L.nil ?_
     refine T.thenN ?_
     refine T.condT rfl rfl ?_
     refine T.skip (T.thenN (T.seq (T.block (T.seq ?_))))
     have hco : k = 1 ∨ 1 < ps.length := by omega
     obtain ⟨f2, rfl⟩ : ∃ f2, f = f2 + 1 := ⟨f - 1, by omega⟩
     rw [lvR_s hco] at hlv
     have hps : ∀ p ∈ ps, 0 ≤ p.2 ∧ p.2 ≤ 1000000000 := fun p hp => ⟨by have := hpos p hp; omega, by have := size_mem hpos hp; omega⟩
     have hgn : gN n6 = (n6 + 7) / 8 := rfl
     refine T.ownRsl (rows := ps.map ptC) qP ?_
     refine T.region ?_
     refine L.move rfl rfl ?_
     refine L.move rfl rfl ?_
     refine L.call rfl (evs.cons rfl <| evs.cons rfl <| evs.nil) qD qS (level_spec (k := k) (ps := ps) (by omega) (by omega) hps) ?_
     rintro _ _ _ ⟨ua, oa, un, uc, on, oc, rfl, hun, hon, rfl, rfl⟩
     refine L.norm qA qA ?_
     refine L.move rfl rfl ?_
     refine L.extract rfl rfl rfl ?_
     refine L.extract rfl rfl rfl ?_
     refine L.assign rfl rfl ?_
     refine L.assign rfl rfl ?_
     refine L.nil ?_
     refine T.thenN ?_
     refine T.ownRsl (rows := (upO k ps).map obC) qP ?_
     refine T.region ?_
     refine L.move rfl rfl ?_
     refine L.move rfl rfl ?_
     refine L.move rfl rfl ?_
     refine L.appendR rfl Tryz.underlying36 Tryz.underlying36 el56 rfl rfl qP (rd_D qM) one_obs qI qI (fun a73 c73 => ?_)
     refine L.assign rfl rfl ?_
     refine L.assign rfl rfl ?_
     refine L.nil ?_
     refine T.blkN (T.thenN (T.region ?_))
     refine L.move rfl rfl ?_
     refine L.addN rfl rfl rfl (by omega) ?_
     refine L.assign rfl rfl ?_
     refine L.nil ?_
     refine T.thenN ?_
     refine T.ownEq (sz := 34) _ ((os ++ upO k ps).map obC) qP (by rw [List.map_append]) ?_
     exact T.back ⟨k + 1, f2, n5 + on, un, _, _, _, _, upP k ps, os ++ upO k ps, ⟨⟨by rw [upP_len, hpn, hun], by rw [List.length_append, upO_len, hpn, hon_, hon]⟩, ⟨by omega, by omega, by omega, by omega⟩, Or.inr ⟨by omega, by omega⟩, hlv, up_pos hpos, by rw [size_up]; exact hsm⟩, rfl, rfl, rfl, rfl⟩ qI (.cons (t := 11) rfl <| .cons (t := 5) rfl <| .cons (t := 6) rfl <| SubK.nil _) (.cons (t := 2) rfl <| SubK.nil _) qD qD qF
    ·try simp only [dq] at h2
     refine L.guardT (dj := 57) rfl rfl rfl ?_
     refine L.move rfl rfl ?_
     refine L.guardT (dj := 57) rfl rfl rfl ?_
     refine L.lenSl rfl Tryz.underlying144 rfl ?_
     refine L.guardT (dj := 57) rfl rfl rfl ?_
     refine L.gtI rfl rfl rfl ?_
     refine L.pickF rfl rfl rfl ?_
     refine L.nil ?_
     refine T.thenN ?_
     refine T.cond rfl (fun h61 => ?_) (fun h61 => ?_)
     ·try simp only [dq] at h61
      refine T.skip (T.thenN (T.seq (T.block (T.seq ?_))))
      have hco : k = 1 ∨ 1 < ps.length := by omega
      obtain ⟨f2, rfl⟩ : ∃ f2, f = f2 + 1 := ⟨f - 1, by omega⟩
      rw [lvR_s hco] at hlv
      have hps : ∀ p ∈ ps, 0 ≤ p.2 ∧ p.2 ≤ 1000000000 := fun p hp => ⟨by have := hpos p hp; omega, by have := size_mem hpos hp; omega⟩
      have hgn : gN n6 = (n6 + 7) / 8 := rfl
      refine T.ownRsl (rows := ps.map ptC) qP ?_
      refine T.region ?_
      refine L.move rfl rfl ?_
      refine L.move rfl rfl ?_
      refine L.call rfl (evs.cons rfl <| evs.cons rfl <| evs.nil) qD qS (level_spec (k := k) (ps := ps) (by omega) (by omega) hps) ?_
      rintro _ _ _ ⟨ua, oa, un, uc, on, oc, rfl, hun, hon, rfl, rfl⟩
      refine L.norm qA qA ?_
      refine L.move rfl rfl ?_
      refine L.extract rfl rfl rfl ?_
      refine L.extract rfl rfl rfl ?_
      refine L.assign rfl rfl ?_
      refine L.assign rfl rfl ?_
      refine L.nil ?_
      refine T.thenN ?_
      refine T.ownRsl (rows := (upO k ps).map obC) qP ?_
      refine T.region ?_
      refine L.move rfl rfl ?_
      refine L.move rfl rfl ?_
      refine L.move rfl rfl ?_
      refine L.appendR rfl Tryz.underlying36 Tryz.underlying36 el56 rfl rfl qP (rd_D qM) one_obs qI qI (fun a73 c73 => ?_)
      refine L.assign rfl rfl ?_
      refine L.assign rfl rfl ?_
      refine L.nil ?_
      refine T.blkN (T.thenN (T.region ?_))
      refine L.move rfl rfl ?_
      refine L.addN rfl rfl rfl (by omega) ?_
      refine L.assign rfl rfl ?_
      refine L.nil ?_
      refine T.thenN ?_
      refine T.ownEq (sz := 34) _ ((os ++ upO k ps).map obC) qP (by rw [List.map_append]) ?_
      exact T.back ⟨k + 1, f2, n5 + on, un, _, _, _, _, upP k ps, os ++ upO k ps, ⟨⟨by rw [upP_len, hpn, hun], by rw [List.length_append, upO_len, hpn, hon_, hon]⟩, ⟨by omega, by omega, by omega, by omega⟩, Or.inr ⟨by omega, by omega⟩, hlv, up_pos hpos, by rw [size_up]; exact hsm⟩, rfl, rfl, rfl, rfl⟩ qI (.cons (t := 11) rfl <| .cons (t := 5) rfl <| .cons (t := 6) rfl <| SubK.nil _) (.cons (t := 2) rfl <| SubK.nil _) qD qD qF
     ·try simp only [dq] at h61
      obtain ⟨p, rfl⟩ : ∃ p, ps = [p] := List.length_eq_one_iff.1 (by omega)
      rw [lvR_z (by simp only [List.length_singleton]; omega)] at hlv
      refine T.ownRsl (rows := [p].map ptC) qP ?_
      have hgr : ([p].map ptC)[0]? = some (ptC p) := rfl
      have hp33 := ptC_len p
      refine T.eqv (A := cl b2 33 (ptC zP)) (B := cl b2 33 (Value.int .u8 0 :: Value.int .u8 0 :: Value.int .u8 0 :: Value.int .u8 0 :: Value.int .u8 0 :: Value.int .u8 0 :: Value.int .u8 0 :: Value.int .u8 0 :: Value.int .u8 0 :: Value.int .u8 0 :: Value.int .u8 0 :: Value.int .u8 0 :: Value.int .u8 0 :: Value.int .u8 0 :: Value.int .u8 0 :: Value.int .u8 0 :: Value.int .u8 0 :: Value.int .u8 0 :: Value.int .u8 0 :: Value.int .u8 0 :: Value.int .u8 0 :: Value.int .u8 0 :: Value.int .u8 0 :: Value.int .u8 0 :: Value.int .u8 0 :: Value.int .u8 0 :: Value.int .u8 0 :: Value.int .u8 0 :: Value.int .u8 0 :: Value.int .u8 0 :: Value.int .u8 0 :: Value.int .u8 0 :: Value.int .i64 0 :: [])) qP rfl ?_
      refine T.exit (T.thenX (T.thenX (T.blkX (T.thenN (T.seq (T.region ?_))))))
      refine L.move rfl rfl ?_
      refine L.idx (i := 0) rfl Tryz.underlying144 sz33 rfl rfl qM (by first | rfl | omega | (simp; done)) qG (fun b75 o75 => ?_)
      refine L.loadA rfl ag33 rfl (CellsN.ofD qM (ptC_len _)) ?_
      refine L.move rfl rfl ?_
      refine L.storeA ag33 rfl rfl qL qO qU qW ?_
      refine L.assign rfl rfl ?_
      refine L.assign rfl rfl ?_
      refine L.nil ?_
      refine T.thenN (T.ret ?_)
      rw [bld_ok hgd h47 (by omega) hlv.symm]
      exact T.retATT rfl ag33 rfl qN rfl rfl ⟨_, _, _, rfl, hon_, rfl, rfl⟩ qD qF
end Cv
