/-
  The walks: nodes.
-/
import Derived.Test.YtahkbpiinbepcaaGreatGH11
import Derived.Test.YtahkbpiinbepcaaGreatB06
import Derived.Test.YtahkbpiinbepcaaGreatProg
import Derived.KernelRfl
import Derived.Test.YtahkbpiinbepcaaGreatCvLg
set_option linter.unusedVariables false
set_option linter.unusedSimpArgs false
set_option linter.unusedSectionVars false
set_option maxHeartbeats 400000
set_option maxRecDepth 10000
namespace Cv
open Go Go.Proofs
/-! ## merkle: the plain model -/
abbrev Pt := ID32 × Int
abbrev Ob := Int × ID32 × List UInt8
@[reducible] def ptC (p : Pt) : List Value := p.1.1.map Y ++ [.int .i64 p.2]
@[reducible] def obC (o : Ob) : List Value := .int .i64 o.1 :: (o.2.1.1.map Y ++ [S o.2.2])
@[reducible] def obR (o : Ob) : List Value := [.int .i64 o.1, S o.2.1.1, S o.2.2]
theorem ptC_len (p : Pt) : (ptC p).length = 33 := by simp [p.1.2]
theorem obC_len (o : Ob) : (obC o).length = 34 := by simp [o.2.1.2]
theorem one_pt {p : Pt} : ∀ u ∈ ptC p, u.oneCell' = true := fun u hu => by
  simp only [ptC, List.mem_append, List.mem_map, List.mem_cons, List.not_mem_nil, or_false] at hu
  rcases hu with ⟨b, _, rfl⟩ | rfl <;> rfl
theorem one_ob {o : Ob} : ∀ u ∈ obC o, u.oneCell' = true := fun u hu => by
  simp only [obC, List.mem_cons, List.mem_append, List.mem_map, List.not_mem_nil, or_false] at hu
  rcases hu with rfl | ⟨b, _, rfl⟩ | rfl <;> rfl
theorem one_obs {l : List Ob} : ∀ u ∈ (l.map obC).flatten, u.oneCell' = true := fun u hu => by
  obtain ⟨r, hr, hu⟩ := List.mem_flatten.1 hu
  obtain ⟨x, _, rfl⟩ := List.mem_map.1 hr
  exact one_ob u hu
def oI (k : Int) (t : List UInt8) : ID32 := ⟨oidF k t, oidF_len k t⟩
theorem oI_val {k : Int} {t : List UInt8} : (oI k t).1 = oidF k t := by simp only [oI]
def ptB (p : Pt) : List UInt8 := p.1.1 ++ numB p.2.toNat
def nodeP (k : Nat) (ps : List Pt) (i : Nat) : List UInt8 := numB k ++ numB ps.length ++ (ps.take i).flatMap ptB
def nodeT (k : Nat) (ps : List Pt) : List UInt8 := nodeP k ps ps.length
theorem nodeP_s {k : Nat} {ps : List Pt} {i : Nat} {p : Pt} (h : ps[i]? = some p) : nodeP k ps (i + 1) = nodeP k ps i ++ ptB p := by
  unfold nodeP
  rw [List.take_add_one, h, List.flatMap_append]
  simp
theorem ptB_len {p : Pt} (h : p.2 ≤ 9223372036854775807) : (ptB p).length ≤ 41 := by
  have h1 := numB_len (n := p.2.toNat) (by omega)
  have h2 := p.1.2
  unfold ptB; rw [List.length_append]; omega
theorem nodeP_len {k : Nat} {ps : List Pt} (hk : k ≤ 1000000) (hl : ps.length ≤ 1000000) (hp : ∀ p ∈ ps, p.2 ≤ 9223372036854775807) : ∀ i, (nodeP k ps i).length ≤ 18 + 41 * i := fun i => by
  have h1 := numB_len (n := k) (by omega)
  have h2 := numB_len (n := ps.length) (by omega)
  have h3 : ∀ l : List Pt, (∀ p ∈ l, p.2 ≤ 9223372036854775807) → (l.flatMap ptB).length ≤ 41 * l.length := by
    intro l
    induction l with
    | nil => intro _; simp
    | cons p l ih =>
      intro h
      have a := ptB_len (h p (by simp))
      have b := ih (fun q hq => h q (by simp [hq]))
      rw [List.flatMap_cons, List.length_append, List.length_cons]; omega
  have h4 := h3 (ps.take i) (fun p hq => hp p (List.mem_of_mem_take hq))
  have h5 : (ps.take i).length ≤ i := by rw [List.length_take]; omega
  unfold nodeP
  rw [List.length_append, List.length_append]; omega
def sizeI (ps : List Pt) (i : Nat) : Int := (ps.take i).foldl (fun k p => k + p.2) 0
def sizeP (ps : List Pt) : Int := sizeI ps ps.length
theorem sizeI_s {ps : List Pt} {i : Nat} {p : Pt} (h : ps[i]? = some p) : sizeI ps (i + 1) = sizeI ps i + p.2 := by
  unfold sizeI; rw [List.take_add_one, h, List.foldl_append]; rfl
theorem foldl_add (l : List Pt) : ∀ a : Int, l.foldl (fun k p => k + p.2) a = a + l.foldl (fun k p => k + p.2) 0 := by
  induction l with
  | nil => intro a; simp
  | cons p l ih => intro a; rw [List.foldl_cons, List.foldl_cons, ih (a + p.2), ih (0 + p.2)]; omega
theorem sizeI_in {ps : List Pt} {B : Int} (hp : ∀ p ∈ ps, 0 ≤ p.2 ∧ p.2 ≤ B) : ∀ i, i ≤ ps.length → 0 ≤ sizeI ps i ∧ sizeI ps i ≤ B * i
  | 0, _ => by simp [sizeI]
  | i + 1, h => by
    have hg : ps[i]? = some (gd ps i) := zJ (by omega)
    have h1 := sizeI_in hp i (by omega)
    have h2 := hp _ (List.mem_of_getElem? hg)
    rw [sizeI_s hg]
    refine ⟨by omega, ?_⟩
    rw [show B * ((i + 1 : Nat) : Int) = B * (i : Int) + B by rw [Int.natCast_add, Int.mul_add]; simp]
    omega
def grp (ps : List Pt) (i : Nat) : List Pt := (ps.drop (8 * i)).take 8
def gN (n : Nat) : Nat := (n + 7) / 8
def grI (ps : List Pt) (i : Nat) : List (List Pt) := (List.range i).map (grp ps)
def grps (ps : List Pt) : List (List Pt) := grI ps (gN ps.length)
theorem grI_s {ps : List Pt} {i : Nat} : grI ps (i + 1) = grI ps i ++ [grp ps i] := by unfold grI; rw [List.range_succ, List.map_append]; rfl
def upt (k : Nat) (g : List Pt) : Pt := (oI 2 (nodeT k g), sizeP g)
def uob (k : Nat) (g : List Pt) : Ob := (2, oI 2 (nodeT k g), nodeT k g)
def upP (k : Nat) (ps : List Pt) : List Pt := (grps ps).map (upt k)
def upO (k : Nat) (ps : List Pt) : List Ob := (grps ps).map (uob k)
theorem upP_len {k : Nat} {ps : List Pt} : (upP k ps).length = gN ps.length := by unfold upP grps grI; simp
theorem upO_len {k : Nat} {ps : List Pt} : (upO k ps).length = gN ps.length := by unfold upO grps grI; simp
theorem grp_len {ps : List Pt} {i : Nat} : (grp ps i).length = min (8 * i + 8) ps.length - 8 * i := by unfold grp; rw [List.length_take, List.length_drop]; omega
theorem grp_mem {ps : List Pt} {i : Nat} {p : Pt} (h : p ∈ grp ps i) : p ∈ ps := List.mem_of_mem_drop (List.mem_of_mem_take h)
theorem rsl_cap {sz len cap c' : Nat} {a : Option Addr} {rows : List (List Value)} {z : Hp} (h : len ≤ c') (H : rsl sz a len cap rows z) : rsl sz a len c' rows z := ⟨H.1, h, H.2.2⟩
theorem rsl_grp {a : Option Addr} {n c : Nat} {ps : List Pt} {z : Hp} (i : Nat) (hn : ps.length = n) (hi : 8 * i ≤ n) (H : rsl 33 a n c (ps.map ptC) z) : rsl 33 (cutA a (min (8 * i + 8) n) (8 * i) 33) (min (8 * i + 8) n - 8 * i) (min (8 * i + 8) n - 8 * i) ((grp ps i).map ptC) z := by
  have h1 := rsl_to (h := min (8 * i + 8) n) (by omega) H
  have h2 := rsl_cap (c' := min (8 * i + 8) n) (Nat.le_refl _) h1
  have h3 := rsl_cut (l := 8 * i) (h := min (8 * i + 8) n) (by omega) (Nat.le_refl _) h2
  have e : (((ps.map ptC).take (min (8 * i + 8) n)).drop (8 * i)).take (min (8 * i + 8) n - 8 * i) = (grp ps i).map ptC := by
    unfold grp
    rw [List.drop_take, List.take_take, Nat.min_self, List.map_take, List.map_drop]
    rcases Nat.le_total (8 * i + 8) n with q | q
    · congr 1; omega
    · rw [List.take_of_length_le (by simp; omega), List.take_of_length_le (by simp; omega)]
  rw [e] at h3
  exact h3
theorem obytes_spec {l : List UInt8} (hl : l.length = 32) : Spec Tryz.prog 29 [.agg (l.map Y).toArray] [] [] (fun v D' M' => v = S l ∧ D' = [] ∧ M' = []) := by
 refine zC (n := 5) Tryz.func29 ?_
 intro σ D M
 refine z6 (z8 (yq rfl rfl rfl (fun b1 => ?_)))
 refine z9 rfl rfl (z7 (T.toOwn (len := 32) qP (rows := l.map yr) (sz := 1) (yr_flat l) (by simp [hl]) (by simp) ?_))
 refine yD qP ?_
 refine z4 (z6 (z8 (xD rfl yf sz5 rfl Bd.no Bd.no qI qI ?_)))
 refine zv (t := 3) (u := .slice (some ⟨b1, 0, none⟩) 32 32) rfl (by first | rfl | simp [cutA, Addr.add]) ?_
 refine L.bytesStr rfl yz zY yy rfl qM ?_
 exact z9 rfl rfl (z7 (z4 (zi (zz rfl rfl ⟨rfl, rfl, rfl⟩ qD qF))))
theorem make_spec {k : Int} {tx : List UInt8} (htx : tx.length ≤ 35184372088832) : Spec Tryz.prog 24 [.int .i64 k, S tx] [] [] (fun v D' M' => v = .agg (obC (k, oI k tx, tx)).toArray ∧ D' = [] ∧ M' = []) := by
 refine zC (n := 12) Tryz.func24 ?_
 intro σ D M
 have h34 := obC_len (k, oI k tx, tx)
 have hi32 := (oI k tx).2
 refine z6 (z8 (zL rfl ze45 (fun b4 => ?_)))
 refine z7 (z4 (z6 (z8 (z5 rfl rfl (z5 rfl rfl (z5 rfl rfl (yh rfl bs31 jD (zB rfl rfl rfl <| zO (out := []) rfl) (fun b8 => ?_))))))))
 refine yU (len := 1) qP (rows := [tx].map ys) (sz := 1) (by rfl) rfl (by simp) ?_
 refine yZ qP ?_
 refine zx rfl (ev2 rfl rfl) qD qS (oidof_spec (ls := [tx]) (by simpa using htx) (by simp)) ?_
 rintro _ _ _ ⟨rfl, rfl, rfl⟩
 refine zt qA qA ?_
 refine zv (t := 9) (u := .agg ((oI k tx).1.map Y).toArray) rfl (by rw [oI_val]; simp only [List.flatten_cons, List.flatten_nil, List.append_nil]) ?_
 refine z5 rfl rfl (yw rfl bu45 (zB rfl rfl rfl <| yQ rfl rfl (by first | with_reducible assumption | (simp; done) | (simp only [List.length_map]; with_reducible assumption) | (simp [*]; done) | rfl) (Nat.le_of_ble_eq_true rfl) qR <| zB rfl rfl rfl <| zO (out := []) rfl) ?_)
 refine zE ag45 rfl rfl qL qO qU qW ?_
 exact z7 (z4 (zi (T.retA rfl ag45 rfl qN ⟨rfl, rfl, rfl⟩ qD qF)))
theorem ntext_spec {k n c : Nat} {a : Option Addr} {ps : List Pt} (hk : k ≤ 1000000) (hn : n ≤ 1000000) (hp : ∀ p ∈ ps, 0 ≤ p.2 ∧ p.2 ≤ 4611686018427387904) : Spec Tryz.prog 25 [.agg #[.int .i64 (k : Int), .slice a n c]] [rsl 33 a n c (ps.map ptC)] [] (fun v D' M' => v = S (nodeT k ps) ∧ D' = [] ∧ M' = []) := by
 refine zC (n := 32) Tryz.func25 ?_
 intro σ D M
 refine yH (rows := ps.map ptC) qM (fun hpl hpc => ?_)
 rw [List.length_map] at hpl
 have hnl := nodeP_len (k := k) (ps := ps) hk jO (fun p q => by have := hp p q; omega)
 have hk9 := numB_len (n := k) jO
 have hn9 := numB_len (n := n) jO
 refine z6 (z8 (yq rfl rfl rfl (fun b1 => ?_)))
 refine z9 rfl rfl (z7 (z4 (z6 (z8 (zj rfl fo49_0 rfl ?_)))))
 refine zh rfl sc3 rfl qC ?_
 refine zj rfl fo49_1 rfl ?_
 refine zh rfl sc47 rfl qC ?_
 refine y2 rfl x7 rfl (yh rfl bs22 jD (zB rfl rfl rfl <| zB rfl rfl rfl <| zO (out := []) rfl) (fun b11 => ?_))
 refine yU (len := 2) qP (rows := ([(k : Int), (n : Int)] : List Int).map e3) (sz := 1) (by rfl) rfl (by simp) ?_
 refine yZ qP ?_
 refine zx rfl (ev1 rfl) qD qS (bnums_spec (xs := [(k : Int), (n : Int)]) jD (by simp; omega)) ?_
 rintro _ _ _ ⟨rfl, rfl, rfl⟩
 refine zt qA qA ?_
 refine zv (t := 12) (u := S (nodeP k ps 0)) rfl (congrArg S (by simp [nodeP, hpl])) ?_
 refine z9 rfl rfl (z7 (z4 (z6 (z6 (z8 (zj rfl fo49_1 rfl ?_))))))
 refine zh rfl sc47 rfl qC ?_
 refine y2 rfl x7 rfl (z5 rfl rfl (z7 (z4 (zr (zX (fun K' D' M' μ => ∃ (i : Nat), (i ≤ n) ∧ K' = [(16, .int .i64 (i : Int)), (3, S (nodeP k ps i))] ∧ D' = [] ∧ M' = [] ∧ μ = n - i) (.c 14 rfl <| .c 15 rfl <| za _) (⟨0, Nat.zero_le _, rfl, rfl, rfl, rfl⟩) (.c 16 rfl <| .c 3 rfl <| za _) qD qS ?_)))))
 rintro K1 D1 M1 m1 ⟨i, hi, rfl, rfl, rfl, rfl⟩
 refine zF qA qA qA ?_
 refine z6 (z8 (zQ rfl rfl rfl (z7 (z4 (z6 (zo rfl (fun h17 => ?_) (fun h17 => ?_)))))))
 ·try simp only [dq] at h17
  refine zm (z4 (z6 (zr (z6 ?_))))
  have hgi : ps[i]? = some (gd ps i) := zJ jO
  obtain ⟨p, hp_⟩ : ∃ x, x = gd ps i := ⟨_, rfl⟩
  rw [← hp_] at hgi
  have hgr : (ps.map ptC)[i]? = some (ptC p) := zU hgi
  have hp33 := ptC_len p
  have hp32 := p.1.2
  have hpm := List.mem_of_getElem? hgi
  have hpb := hp p hpm
  refine z8 (yI (i := i) rfl x7 sz51 rfl rfl qM jR qG (fun b18 o18 => ?_))
  refine zp rfl ag51 rfl (x8 qM (ptC_len _)) ?_
  refine zL rfl ze51 (fun b5 => ?_)
  refine zE ag51 rfl rfl qL qO qU qW ?_
  refine z7 (z4 (y1 (A := cl b5 51 (ptC p)) qP ?_))
  have hni := hnl i
  refine yt (clsL [1, 1, 1, 2, 1, 1, 2, 2, 1, 1, 1]) qk ?_
  refine ze 0 rfl rfl (z5 rfl rfl (zd (ze 1 rfl rfl (zj rfl fo51_0 rfl ?_))))
  refine zd (ze 2 rfl rfl (zp rfl zu rfl qN ?_))
  refine zd (ze 4 rfl rfl (zj rfl fo51_1 rfl ?_))
  refine zd (ze 5 rfl rfl (zh rfl sc3 rfl qC ?_))
  refine zd (xg (is := [3, 6]) qk jD (yE rfl ?_ <| yE rfl ?_ <| xh) )
  ·skip
   refine zW rfl (ev1 rfl) qD qS (obytes_spec (l := p.1.1) hp32) jF ?_
   refine zw rfl qD ?_
   refine zy 6 rfl (yh rfl bs22 jD (zB rfl rfl rfl <| zO (out := []) rfl) (fun b26 => ?_))
   refine yU (len := 1) qP (rows := ([p.2] : List Int).map e3) (sz := 1) (by rfl) rfl (by simp) ?_
   refine yZ qP ?_
   refine zw rfl qD ?_
   refine zy 7 rfl (zx rfl (ev1 rfl) qD qS (bnums_spec (xs := [p.2]) jD (by simp; omega)) ?_)
   rintro _ _ _ ⟨rfl, rfl, rfl⟩
   refine zt qA qA ?_
   refine zv (t := 27) (u := S (numB p.2.toNat)) rfl (congrArg S (by simp)) ?_
   have hp9 := numB_len (n := p.2.toNat) jO
   refine zw rfl qD ?_
   refine ze 8 rfl rfl (L.addS rfl rfl rfl qI ?_)
   refine zd (ze 9 rfl rfl (L.addS rfl rfl rfl qI ?_))
   refine zv (t := 29) (u := S (nodeP k ps (i + 1))) rfl (congrArg S (by rw [nodeP_s hgi]; rfl)) ?_
   refine zd (ze 10 rfl rfl (z9 rfl rfl (zd (y6 qk ?_))))
   refine zI (z4 (z8 (zH rfl rfl rfl jO ?_)))
   exact z5 rfl rfl (z7 (z4 (zM ⟨i + 1, jO, rfl, rfl, rfl, rfl⟩ qI (.c 16 rfl <| .c 3 rfl <| za _) (.c 14 rfl <| .c 15 rfl <| za _) qD qD qF)))
  ·skip
   refine yh rfl bs22 jD (zB rfl rfl rfl <| zO (out := []) rfl) (fun b26 => ?_)
   refine yU (len := 1) qP (rows := ([p.2] : List Int).map e3) (sz := 1) (by rfl) rfl (by simp) ?_
   refine yZ qP ?_
   refine zw rfl qD ?_
   refine zy 3 rfl (zW rfl (ev1 rfl) qD qS (obytes_spec (l := p.1.1) hp32) jF ?_)
   refine zw rfl qD ?_
   refine zy 7 rfl (zx rfl (ev1 rfl) qD qS (bnums_spec (xs := [p.2]) jD (by simp; omega)) ?_)
   rintro _ _ _ ⟨rfl, rfl, rfl⟩
   refine zt qA qA ?_
   refine zv (t := 27) (u := S (numB p.2.toNat)) rfl (congrArg S (by simp)) ?_
   have hp9 := numB_len (n := p.2.toNat) jO
   refine zw rfl qD ?_
   refine ze 8 rfl rfl (L.addS rfl rfl rfl qI ?_)
   refine zd (ze 9 rfl rfl (L.addS rfl rfl rfl qI ?_))
   refine zv (t := 29) (u := S (nodeP k ps (i + 1))) rfl (congrArg S (by rw [nodeP_s hgi]; rfl)) ?_
   refine zd (ze 10 rfl rfl (z9 rfl rfl (zd (y6 qk ?_))))
   refine zI (z4 (z8 (zH rfl rfl rfl jO ?_)))
   exact z5 rfl rfl (z7 (z4 (zM ⟨i + 1, jO, rfl, rfl, rfl, rfl⟩ qI (.c 16 rfl <| .c 3 rfl <| za _) (.c 14 rfl <| .c 15 rfl <| za _) qD qD qF)))
 ·try simp only [dq] at h17
  obtain rfl : i = n := by omega
  exact zR (zq (zq (zS (z4 (z6 (z8 (z5 rfl rfl (z9 rfl rfl (z7 (z4 (zi (zz rfl rfl ⟨by unfold nodeT; rw [hpl], rfl, rfl⟩ qD qF))))))))))))
theorem nsize_spec {k n c : Nat} {a : Option Addr} {ps : List Pt} (hn : n ≤ 1000000) (hp : ∀ p ∈ ps, 0 ≤ p.2 ∧ p.2 ≤ 1000000000) : Spec Tryz.prog 89 [.agg #[.int .i64 (k : Int), .slice a n c]] [rsl 33 a n c (ps.map ptC)] [] (fun v D' M' => v = .int .i64 (sizeP ps) ∧ D' = [] ∧ M' = []) := by
 refine zC (n := 19) Tryz.func89 ?_
 intro σ D M
 refine yH (rows := ps.map ptC) qM (fun hpl hpc => ?_)
 rw [List.length_map] at hpl
 have hsz := sizeI_in hp
 refine z6 (z8 (yq rfl rfl rfl (fun b1 => ?_)))
 refine z9 rfl rfl (z7 (z4 (z6 (z8 (z9 rfl rfl (z7 (z4 (z6 (z6 (z8 (zj rfl fo49_1 rfl ?_)))))))))))
 refine zh rfl sc47 rfl qC ?_
 refine y2 rfl x7 rfl (z5 rfl rfl (z7 (z4 (zr (zX (fun K' D' M' μ => ∃ (i : Nat), (i ≤ n) ∧ K' = [(9, .int .i64 (i : Int)), (3, .int .i64 (sizeI ps i))] ∧ D' = [] ∧ M' = [] ∧ μ = n - i) (.c 7 rfl <| .c 8 rfl <| za _) (⟨0, Nat.zero_le _, rfl, rfl, rfl, rfl⟩) (.c 9 rfl <| .c 3 rfl <| za _) qD qS ?_)))))
 rintro K1 D1 M1 m1 ⟨i, hi, rfl, rfl, rfl, rfl⟩
 refine zF qA qA qA ?_
 refine z6 (z8 (zQ rfl rfl rfl (z7 (z4 (z6 (zo rfl (fun h10 => ?_) (fun h10 => ?_)))))))
 ·try simp only [dq] at h10
  refine zm (z4 (z6 (zr (z6 ?_))))
  have hgi : ps[i]? = some (gd ps i) := zJ jO
  obtain ⟨p, hp_⟩ : ∃ x, x = gd ps i := ⟨_, rfl⟩
  rw [← hp_] at hgi
  have hgr : (ps.map ptC)[i]? = some (ptC p) := zU hgi
  have hp33 := ptC_len p
  have hp32 := p.1.2
  have hpm := List.mem_of_getElem? hgi
  have hpb := hp p hpm
  refine z8 (yI (i := i) rfl x7 sz51 rfl rfl qM jR qG (fun b11 o11 => ?_))
  refine zp rfl ag51 rfl (x8 qM (ptC_len _)) ?_
  refine zL rfl ze51 (fun b5 => ?_)
  refine zE ag51 rfl rfl qL qO qU qW ?_
  refine z7 (z4 ?_)
  have hsi := hsz i jO
  have hss := hsz (i + 1) jO
  rw [sizeI_s hgi] at hss
  refine z8 (z5 rfl rfl (zj rfl fo51_1 rfl ?_))
  refine zh rfl sc3 rfl qC ?_
  refine zH rfl rfl rfl jO ?_
  refine zv (t := 16) (u := .int .i64 (sizeI ps (i + 1))) rfl (congrArg (Value.int .i64) (sizeI_s hgi).symm) ?_
  refine z9 rfl rfl (z7 (zI (z4 (z8 (zH rfl rfl rfl jO ?_)))))
  exact z5 rfl rfl (z7 (z4 (zM ⟨i + 1, jO, rfl, rfl, rfl, rfl⟩ qI (.c 9 rfl <| .c 3 rfl <| za _) (.c 7 rfl <| .c 8 rfl <| za _) qD qD qF)))
 ·try simp only [dq] at h10
  obtain rfl : i = n := by omega
  exact zR (zq (zq (zS (z4 (z6 (z8 (z5 rfl rfl (z9 rfl rfl (z7 (z4 (zi (zz rfl rfl ⟨by unfold sizeP; rw [hpl], rfl, rfl⟩ qD qF))))))))))))
theorem chunkit_spec {c1 c2 n c l : Nat} {a : Option Addr} {ps : List Pt} {ψ : Asn} {J : List Nat → Asn} (hY : ∀ (pre : List Nat) (i : Nat), (i = pre.length ∧ 8 * i < n) → YSpec Tryz.prog l ((fun i : Nat => [.slice (cutA a (min (8 * i + 8) n) (8 * i) 33) (min (8 * i + 8) n - 8 * i) (min (8 * i + 8) n - 8 * i)]) i) [ψ] [J pre] (fun v D' M' => v = .bool true ∧ D' = [] ∧ M' = [J (pre ++ [i])])) (hn : n ≤ 1000000) : Spec Tryz.prog 178 [fnY l, .pointer (some ⟨c1, 0, none⟩), .pointer (some ⟨c2, 0, none⟩)] [dall [cl c1 47 [.slice a n c], cl c2 3 [.int .i64 8], rsl 33 a n c (ps.map ptC)], ψ] [all [], J []] (fun v D' M' => v = .tuple #[] ∧ D' = [] ∧ M' = [all [], J (List.range (gN n))]) := by
 refine zC (n := 31) Tryz.func178 ?_
 intro σ D M
 refine T.unpackD (X := [cl c1 47 [.slice a n c], cl c2 3 [.int .i64 8], rsl 33 a n c (ps.map ptC)]) qM ?_
 refine T.norm (Y := []) qA AppL.nil ?_
 refine yH (rows := ps.map ptC) qM (fun hpl hpc => ?_)
 rw [List.length_map] at hpl
 refine zZ qP (show J [] = J (List.range 0) from rfl) ?_
 
 refine z6 (z8 (z9 rfl rfl (z7 (z4 (zr (zX (fun K' D' M' μ => ∃ (i : Nat), (i ≤ gN n) ∧ K' = [(4, .int .i64 ((8 * i : Nat) : Int))] ∧ D' = [] ∧ M' = [J (List.range i)] ∧ μ = gN n - i) (.c 0 rfl <| .c 1 rfl <| .c 2 rfl <| za _) (⟨0, Nat.zero_le _, rfl, rfl, rfl, rfl⟩) (.c 4 rfl <| za _) qD qS ?_))))))
 rintro K1 D1 M1 m1 ⟨i, hi, rfl, rfl, rfl, rfl⟩
 refine zF qA qA qA ?_
 have hgn : gN n = (n + 7) / 8 := rfl
 refine z6 (z6 (z8 (z5 rfl rfl (zh rfl sc47 rfl qC ?_))))
 refine y2 rfl x7 rfl (zQ rfl rfl rfl (z7 (z4 (zo rfl (fun h9 => ?_) (fun h9 => ?_)))))
 ·try simp only [dq] at h9
  refine zm (z4 (z6 (zr (z6 (yC qk qk (zh rfl sc3 rfl qC ?_))))))
  refine zh rfl sc47 rfl qC ?_
  refine z5 rfl rfl (L.sliceSl rfl x7 sz51 rfl (Bd.at (x := 8 * i) rfl jR) Bd.no qI qI ?_)
  refine y2 rfl x7 rfl (L.minI rfl rfl rfl ?_)
  refine zv (t := 18) (u := .int .i64 ((min (8 * i + 8) n - 8 * i : Nat) : Int)) rfl (congrArg (Value.int .i64) jO) ?_
  refine z9 rfl rfl (yA (z4 (z6 (z8 (z5 rfl rfl (zh rfl sc47 rfl qC ?_))))))
  refine z5 rfl rfl (z5 rfl rfl (z5 rfl rfl (zH rfl rfl rfl jO ?_)))
  refine zv (t := 24) (u := .int .i64 ((min (8 * i + 8) n : Nat) : Int)) rfl (congrArg (Value.int .i64) jO) ?_
  refine z5 rfl rfl (z5 rfl rfl (zH rfl rfl rfl jO ?_))
  refine zv (t := 27) (u := .int .i64 ((min (8 * i + 8) n : Nat) : Int)) rfl (congrArg (Value.int .i64) jO) ?_
  refine L.sliceMax (h := min (8 * i + 8) n) rfl x7 sz51 rfl (Bd.at (x := 8 * i) rfl jR) ⟨_, _, _, rfl, rfl, (by first | rfl | omega)⟩ rfl qI qI qI ?_
  refine L.callY (M0 := [J (List.range i)]) rfl rfl rfl (evs.cons rfl xu) qD qS (hY (List.range i) i ⟨by simp, by omega⟩) ?_
  rintro _ _ _ ⟨rfl, rfl, rfl⟩
  refine zt qA qA ?_
  refine yX rfl rfl (z7 (z4 (ym rfl rfl ?_)))
  refine zm (zI (z4 (z8 (z5 rfl rfl (zh rfl sc3 rfl qC ?_)))))
  refine zH rfl rfl rfl jO ?_
  refine zv (t := 12) (u := .int .i64 ((8 * (i + 1) : Nat) : Int)) rfl (congrArg (Value.int .i64) jO) ?_
  refine z9 rfl rfl (z7 (z4 (zZ qP (show J (List.range i ++ [i]) = J (List.range (i + 1)) from by rw [List.range_succ]) ?_)))
  exact zM ⟨i + 1, jO, rfl, rfl, rfl, rfl⟩ qI (.c 4 rfl <| za _) (.c 0 rfl <| .c 1 rfl <| .c 2 rfl <| za _) qD qD qF
 ·try simp only [dq] at h9
  obtain rfl : i = gN n := by omega
  exact zR (zq (zq (zS (yW (by simp) rfl ⟨rfl, rfl, rfl⟩ qD qF))))
theorem chunk_iter {c1 c2 n c : Nat} {a : Option Addr} {ps : List Pt} (hn : n ≤ 1000000) : Iter Tryz.prog 178 [.pointer (some ⟨c1, 0, none⟩), .pointer (some ⟨c2, 0, none⟩)] (fun i : Nat => [.slice (cutA a (min (8 * i + 8) n) (8 * i) 33) (min (8 * i + 8) n - 8 * i) (min (8 * i + 8) n - 8 * i)]) (fun pre i => i = pre.length ∧ 8 * i < n) (dall [cl c1 47 [.slice a n c], cl c2 3 [.int .i64 8], rsl 33 a n c (ps.map ptC)]) (all []) (all []) (fun xs => xs = List.range (gN n)) :=
 ⟨fun l ψ J hY => (chunkit_spec hY hn).imp (fun v D' M' ⟨_, h3, h4⟩ => ⟨_, rfl, h3, h4⟩)⟩
theorem chunk_spec {n c : Nat} {a : Option Addr} {ps : List Pt}  : Spec Tryz.prog 162 [.slice a n c, .int .i64 8] [rsl 33 a n c (ps.map ptC)] [] (fun v D' M' => ∃ (c1 c2 : Nat), v = fnV 178 [.pointer (some ⟨c1, 0, none⟩), .pointer (some ⟨c2, 0, none⟩)] ∧ D' = [dall [cl c1 47 [.slice a n c], cl c2 3 [.int .i64 8], rsl 33 a n c (ps.map ptC)]] ∧ M' = []) := by
 refine zC (n := 9) Tryz.func162 ?_
 intro σ D M
 refine z6 (z8 (yq rfl rfl rfl (fun b2 => ?_)))
 refine yq rfl rfl rfl (fun b3 => ?_)
 refine z9 rfl rfl (z7 (y1 (A := cl b2 47 [.slice a n c]) qP ?_))
 refine y1 (A := cl b3 3 [.int .i64 8]) qP ?_
 refine z4 (z6 (z6 (z8 (zh rfl sc3 rfl qC ?_))))
 refine zQ rfl rfl rfl (z7 (z4 (ym rfl rfl ?_)))
 refine zm (z4 (z6 (z8 (L.makeFunc rfl (ev2 rfl rfl) ?_))))
 refine z9 rfl rfl (z7 (T.packD (X := [cl b2 47 [.slice a n c], cl b3 3 [.int .i64 8], rsl 33 a n c (ps.map ptC)]) qD ?_))
 exact z4 (zi (zz rfl rfl ⟨b2, b3, rfl, rfl, rfl⟩ qD qF))
theorem level_spec {k n c : Nat} {a : Option Addr} {ps : List Pt} (hk : k ≤ 1000000) (hn : n ≤ 1000000) (hp : ∀ p ∈ ps, 0 ≤ p.2 ∧ p.2 ≤ 1000000000) : Spec Tryz.prog 135 [.int .i64 (k : Int), .slice a n c] [rsl 33 a n c (ps.map ptC)] [] (fun v D' M' => ∃ (a1 a2 : Option Addr) (n1 c1 n2 c2 : Nat), v = .tuple #[.slice a1 n1 c1, .slice a2 n2 c2] ∧ (gN n = n1) ∧ (gN n = n2) ∧ D' = [] ∧ M' = [own 33 51 a1 n1 c1 ((upP k ps).map ptC), own 34 45 a2 n2 c2 ((upO k ps).map obC)]) := by
 refine zC (n := 34) Tryz.func135 ?_
 intro σ D M
 refine yH (rows := ps.map ptC) qM (fun hpl hpc => ?_)
 rw [List.length_map] at hpl
 
 refine z6 (z8 (yq rfl rfl rfl (fun b2 => ?_)))
 refine z9 rfl rfl (z9 rfl rfl (z7 (y1 (A := cl b2 3 [.int .i64 (k : Int)]) qP ?_)))
 refine z4 (z6 (z8 (zL rfl ze47 (fun b6 => ?_))))
 refine z7 (z4 (z6 (z8 (zL rfl ze24 (fun b7 => ?_)))))
 refine z7 (z4 (z6 (z6 (z8 (z5 rfl rfl (zx rfl (ev2 rfl rfl) qD qS (chunk_spec (ps := ps)) ?_))))))
 rintro _ _ _ ⟨c1, c2, rfl, rfl, rfl⟩
 refine zt qA qA ?_
 refine z7 (yF (sz := 33) (e := 51) ?_)
 refine zZ qP (show own 33 51 none 0 0 [] = own 33 51 none 0 0 (((grI ps 0).map (upt k)).map ptC) from rfl) ?_
 refine yF (sz := 34) (e := 45) ?_
 refine zZ qP (show own 34 45 none 0 0 [] = own 34 45 none 0 0 (((grI ps 0).map (uob k)).map obC) from rfl) ?_
 refine T.emp ?_
 refine z4 (zr (T.mkJ (J := (fun (pre : List (Nat)) => exs fun (a6 : Option Addr) => exs fun (a7 : Option Addr) => exs fun (c6 : Nat) => exs fun (c7 : Nat) => exs fun (n6 : Nat) => pur (pre.length = n6 ∧ n6 ≤ gN n) (all [cl b6 47 [.slice a6 n6 c6], cl b7 24 [.slice a7 n6 c7], own 33 51 a6 n6 c6 (((grI ps n6).map (upt k)).map ptC), own 34 45 a7 n6 c7 (((grI ps n6).map (uob k)).map obC)]) : List (Nat) → Asn) []) (L := (fun (pre : List (Nat)) (a6 : Option Addr) (a7 : Option Addr) (c6 : Nat) (c7 : Nat) (n6 : Nat) => ([cl b6 47 [.slice a6 n6 c6], cl b7 24 [.slice a7 n6 c7], own 33 51 a6 n6 c6 (((grI ps n6).map (upt k)).map ptC), own 34 45 a7 n6 c7 (((grI ps n6).map (uob k)).map obC)] : List Asn)) [] (none) (none) (0) (0) (0)) qS (yG (none) (yG (none) (yG (0) (yG (0) (yG (0) (pur.in ⟨rfl, Nat.zero_le _⟩ (Ent.refl _))))))) ?_))
 refine T.rangeFunc (encs := fun i : Nat => [.slice (cutA a (min (8 * i + 8) n) (8 * i) 33) (min (8 * i + 8) n - 8 * i) (min (8 * i + 8) n - 8 * i)]) (chunk_iter (c1 := c1) (c2 := c2) (ps := ps) hn) rfl qk (fun _ => rfl) jD (fun i => [(13, .slice (cutA a (min (8 * i + 8) n) (8 * i) 33) (min (8 * i + 8) n - 8 * i) (min (8 * i + 8) n - 8 * i))]) (fun _ => rfl) [rsl 33 a n c (ps.map ptC), cl b2 3 [.int .i64 (k : Int)]] (fun (pre : List (Nat)) => exs fun (a6 : Option Addr) => exs fun (a7 : Option Addr) => exs fun (c6 : Nat) => exs fun (c7 : Nat) => exs fun (n6 : Nat) => pur (pre.length = n6 ∧ n6 ≤ gN n) (all [cl b6 47 [.slice a6 n6 c6], cl b7 24 [.slice a7 n6 c7], own 33 51 a6 n6 c6 (((grI ps n6).map (upt k)).map ptC), own 34 45 a7 n6 c7 (((grI ps n6).map (uob k)).map obC)]) : List (Nat) → Asn) (.c 2 rfl <| .c 6 rfl <| .c 7 rfl <| za _) qD qD qS ?_ ?_
 ·intro σ1 l1 r1 pre x D1 M1 hok hr1
  refine T.norm2 qA qA ?_
  refine yY qP (fun a6 => ?_)
  refine yY qP (fun a7 => ?_)
  refine yY qP (fun c6 => ?_)
  refine yY qP (fun c7 => ?_)
  refine yY qP (fun n6 => ?_)
  refine T.pur qP (fun hJ => ?_)
  refine T.unfold _ qP rfl qA ?_
  obtain ⟨hxp, hx8⟩ := hok
  obtain ⟨hJ, hJ2⟩ := hJ
  have hgn : gN n = (n + 7) / 8 := rfl
  refine T.derive (φ := rsl 33 a n c (ps.map ptC)) (ψ := rsl 33 (cutA a (min (8 * x + 8) n) (8 * x) 33) (min (8 * x + 8) n - 8 * x) (min (8 * x + 8) n - 8 * x) ((grp ps x).map ptC)) qM (fun z H => rsl_grp x hpl jO H) ?_
  have hgl := @grp_len ps x
  have hnl : (nodeT k (grp ps x)).length ≤ 18 + 41 * (grp ps x).length := nodeP_len hk jO (fun p q => by have := hp p (grp_mem q); omega) _
  have ho34 := obC_len (2, oI 2 (nodeT k (grp ps x)), nodeT k (grp ps x))
  have ho32 := (oI 2 (nodeT k (grp ps x))).2
  refine z8 (z9 rfl rfl (z7 (z4 (T.begin hr1.1 qP ?_))))
  refine zr (z6 (z8 (zh rfl sc3 rfl qC ?_)))
  refine z5 rfl rfl (yw rfl bu49 (zB rfl rfl rfl <| zB rfl rfl rfl <| zO (out := []) rfl) ?_)
  refine zL rfl ze49 (fun b9 => ?_)
  refine zE ag49 rfl rfl qL qO qU qW ?_
  refine z7 (z4 (z6 (z8 (zp rfl ag49 rfl qN ?_))))
  refine zW rfl (ev1 rfl) qD qS (ntext_spec (k := k) (ps := (grp ps x)) hk jO (fun p q => by have := hp p (grp_mem q); omega)) jF ?_
  refine zW rfl (ev2 rfl rfl) qD qS (make_spec (k := 2) (tx := nodeT k (grp ps x)) jO) jF ?_
  refine zL rfl ze45 (fun b10 => ?_)
  refine zE ag45 rfl rfl qL qO qU qW ?_
  refine z7 (y1 (A := cl b10 45 (obC (2, oI 2 (nodeT k (grp ps x)), nodeT k (grp ps x)))) qP ?_)
  refine y1 (A := cl b9 49 [.int .i64 (k : Int), .slice (cutA a (min (8 * x + 8) n) (8 * x) 33) (min (8 * x + 8) n - 8 * x) (min (8 * x + 8) n - 8 * x)]) qP ?_
  refine z4 (z6 (yt (clsL [2, 1, 1, 1, 2, 1, 2, 2, 2]) qk ?_))
  refine ze 1 rfl rfl (zj rfl fo45_1 rfl ?_)
  refine zd (ze 2 rfl rfl (zp rfl zu rfl qN ?_))
  refine zd (ze 3 rfl rfl (zp rfl ag49 rfl qN ?_))
  refine zd (xg (is := [0, 4]) qk jD (yE rfl ?_ <| yE rfl ?_ <| xh) )
  ·skip
   refine zh rfl sc47 rfl qC ?_
   refine zw rfl qD ?_
   refine zy 4 rfl (zW rfl (ev1 rfl) qD qS (nsize_spec (k := k) (ps := (grp ps x)) jO (fun p q => hp p (grp_mem q))) jF ?_)
   refine zw rfl qD ?_
   refine ze 5 rfl rfl (yw rfl bu51 (yQ rfl rfl (by first | with_reducible assumption | (simp; done) | (simp only [List.length_map]; with_reducible assumption) | (simp [*]; done) | rfl) (Nat.le_of_ble_eq_true rfl) qR <| zB rfl rfl rfl <| zO (out := []) rfl) ?_)
   refine zv (t := 25) (u := .agg (ptC (upt k (grp ps x))).toArray) rfl (by first | rfl | simp) ?_
   have hu33 := ptC_len (upt k (grp ps x))
   refine zd (zy 6 rfl (yh rfl bs47 jD (yQ rfl rfl (by first | with_reducible assumption | (simp; done) | (simp only [List.length_map]; with_reducible assumption) | (simp [*]; done) | rfl) (Nat.le_of_ble_eq_true rfl) qR <| zO (out := []) rfl) (fun b26 => ?_)))
   refine zw rfl qD ?_
   refine zy 7 rfl (yR rfl x7 el51 rfl rfl qP qM (by rw [List.append_nil]; exact ptC_len (upt k (grp ps x))) (fun u hu => by rw [List.append_nil] at hu; exact one_pt (p := upt k (grp ps x)) u hu) qI qI (fun a27 c27 => ?_))
   refine zw rfl qD ?_
   refine zy 8 rfl (yv sc47 rfl rfl rfl qU qE ?_)
   refine zw rfl qD ?_
   refine y6 qk ?_
   refine z4 (z8 (zh rfl sc24 rfl qC ?_))
   refine zp rfl ag45 rfl qN ?_
   refine yh rfl bs24 jD (yQ rfl rfl (by first | with_reducible assumption | (simp; done) | (simp only [List.length_map]; with_reducible assumption) | (simp [*]; done) | rfl) (Nat.le_of_ble_eq_true rfl) qR <| zO (out := []) rfl) (fun b30 => ?_)
   refine yR rfl x9 el45 rfl rfl qP qM (by rw [List.append_nil]; exact obC_len (uob k (grp ps x))) (fun u hu => by rw [List.append_nil] at hu; exact one_ob (o := uob k (grp ps x)) u hu) qI qI (fun a31 c31 => ?_)
   refine yv sc24 rfl rfl rfl qU qE ?_
   refine z7 (zI (y4 (sz := 34) _ (((grI ps (n6 + 1)).map (uob k)).map obC) qP (by rw [grI_s, ← hJ, ← hxp, List.map_append, List.map_append, List.append_nil]; rfl) ?_))
   refine y4 (sz := 33) _ (((grI ps (n6 + 1)).map (upt k)).map ptC) qP (by rw [grI_s, ← hJ, ← hxp, List.map_append, List.map_append, List.append_nil]; rfl) ?_
   refine T.mkJ (J := (fun (pre : List (Nat)) => exs fun (a6 : Option Addr) => exs fun (a7 : Option Addr) => exs fun (c6 : Nat) => exs fun (c7 : Nat) => exs fun (n6 : Nat) => pur (pre.length = n6 ∧ n6 ≤ gN n) (all [cl b6 47 [.slice a6 n6 c6], cl b7 24 [.slice a7 n6 c7], own 33 51 a6 n6 c6 (((grI ps n6).map (upt k)).map ptC), own 34 45 a7 n6 c7 (((grI ps n6).map (uob k)).map obC)]) : List (Nat) → Asn) (pre ++ [x])) (L := (fun (pre : List (Nat)) (a6 : Option Addr) (a7 : Option Addr) (c6 : Nat) (c7 : Nat) (n6 : Nat) => ([cl b6 47 [.slice a6 n6 c6], cl b7 24 [.slice a7 n6 c7], own 33 51 a6 n6 c6 (((grI ps n6).map (upt k)).map ptC), own 34 45 a7 n6 c7 (((grI ps n6).map (uob k)).map obC)] : List Asn)) (pre ++ [x]) (_) (_) (_) (_) (n6 + 1)) qS (yG (_) (yG (_) (yG (_) (yG (_) (yG (n6 + 1) (pur.in ⟨by rw [List.length_append]; simp only [List.length_singleton]; omega, by omega⟩ (Ent.refl _))))))) ?_
   exact T.roundEnd hr1 qP qD qF
  ·skip
   refine zW rfl (ev1 rfl) qD qS (nsize_spec (k := k) (ps := (grp ps x)) jO (fun p q => hp p (grp_mem q))) jF ?_
   refine zw rfl qD ?_
   refine ze 5 rfl rfl (yw rfl bu51 (yQ rfl rfl (by first | with_reducible assumption | (simp; done) | (simp only [List.length_map]; with_reducible assumption) | (simp [*]; done) | rfl) (Nat.le_of_ble_eq_true rfl) qR <| zB rfl rfl rfl <| zO (out := []) rfl) ?_)
   refine zv (t := 25) (u := .agg (ptC (upt k (grp ps x))).toArray) rfl (by first | rfl | simp) ?_
   have hu33 := ptC_len (upt k (grp ps x))
   refine zd (xg (is := [0, 6]) qk jD (yE rfl ?_ <| yE rfl ?_ <| xh) )
   ·skip
    refine zh rfl sc47 rfl qC ?_
    refine zw rfl qD ?_
    refine zy 6 rfl (yh rfl bs47 jD (yQ rfl rfl (by first | with_reducible assumption | (simp; done) | (simp only [List.length_map]; with_reducible assumption) | (simp [*]; done) | rfl) (Nat.le_of_ble_eq_true rfl) qR <| zO (out := []) rfl) (fun b26 => ?_))
    refine zw rfl qD ?_
    refine zy 7 rfl (yR rfl x7 el51 rfl rfl qP qM (by rw [List.append_nil]; exact ptC_len (upt k (grp ps x))) (fun u hu => by rw [List.append_nil] at hu; exact one_pt (p := upt k (grp ps x)) u hu) qI qI (fun a27 c27 => ?_))
    refine zw rfl qD ?_
    refine zy 8 rfl (yv sc47 rfl rfl rfl qU qE ?_)
    refine zw rfl qD ?_
    refine y6 qk ?_
    refine z4 (z8 (zh rfl sc24 rfl qC ?_))
    refine zp rfl ag45 rfl qN ?_
    refine yh rfl bs24 jD (yQ rfl rfl (by first | with_reducible assumption | (simp; done) | (simp only [List.length_map]; with_reducible assumption) | (simp [*]; done) | rfl) (Nat.le_of_ble_eq_true rfl) qR <| zO (out := []) rfl) (fun b30 => ?_)
    refine yR rfl x9 el45 rfl rfl qP qM (by rw [List.append_nil]; exact obC_len (uob k (grp ps x))) (fun u hu => by rw [List.append_nil] at hu; exact one_ob (o := uob k (grp ps x)) u hu) qI qI (fun a31 c31 => ?_)
    refine yv sc24 rfl rfl rfl qU qE ?_
    refine z7 (zI (y4 (sz := 34) _ (((grI ps (n6 + 1)).map (uob k)).map obC) qP (by rw [grI_s, ← hJ, ← hxp, List.map_append, List.map_append, List.append_nil]; rfl) ?_))
    refine y4 (sz := 33) _ (((grI ps (n6 + 1)).map (upt k)).map ptC) qP (by rw [grI_s, ← hJ, ← hxp, List.map_append, List.map_append, List.append_nil]; rfl) ?_
    refine T.mkJ (J := (fun (pre : List (Nat)) => exs fun (a6 : Option Addr) => exs fun (a7 : Option Addr) => exs fun (c6 : Nat) => exs fun (c7 : Nat) => exs fun (n6 : Nat) => pur (pre.length = n6 ∧ n6 ≤ gN n) (all [cl b6 47 [.slice a6 n6 c6], cl b7 24 [.slice a7 n6 c7], own 33 51 a6 n6 c6 (((grI ps n6).map (upt k)).map ptC), own 34 45 a7 n6 c7 (((grI ps n6).map (uob k)).map obC)]) : List (Nat) → Asn) (pre ++ [x])) (L := (fun (pre : List (Nat)) (a6 : Option Addr) (a7 : Option Addr) (c6 : Nat) (c7 : Nat) (n6 : Nat) => ([cl b6 47 [.slice a6 n6 c6], cl b7 24 [.slice a7 n6 c7], own 33 51 a6 n6 c6 (((grI ps n6).map (upt k)).map ptC), own 34 45 a7 n6 c7 (((grI ps n6).map (uob k)).map obC)] : List Asn)) (pre ++ [x]) (_) (_) (_) (_) (n6 + 1)) qS (yG (_) (yG (_) (yG (_) (yG (_) (yG (n6 + 1) (pur.in ⟨by rw [List.length_append]; simp only [List.length_singleton]; omega, by omega⟩ (Ent.refl _))))))) ?_
    exact T.roundEnd hr1 qP qD qF
   ·skip
    refine yh rfl bs47 jD (yQ rfl rfl (by first | with_reducible assumption | (simp; done) | (simp only [List.length_map]; with_reducible assumption) | (simp [*]; done) | rfl) (Nat.le_of_ble_eq_true rfl) qR <| zO (out := []) rfl) (fun b26 => ?_)
    refine zw rfl qD ?_
    refine zy 0 rfl (zh rfl sc47 rfl qC ?_)
    refine zw rfl qD ?_
    refine zy 7 rfl (yR rfl x7 el51 rfl rfl qP qM (by rw [List.append_nil]; exact ptC_len (upt k (grp ps x))) (fun u hu => by rw [List.append_nil] at hu; exact one_pt (p := upt k (grp ps x)) u hu) qI qI (fun a27 c27 => ?_))
    refine zw rfl qD ?_
    refine zy 8 rfl (yv sc47 rfl rfl rfl qU qE ?_)
    refine zw rfl qD ?_
    refine y6 qk ?_
    refine z4 (z8 (zh rfl sc24 rfl qC ?_))
    refine zp rfl ag45 rfl qN ?_
    refine yh rfl bs24 jD (yQ rfl rfl (by first | with_reducible assumption | (simp; done) | (simp only [List.length_map]; with_reducible assumption) | (simp [*]; done) | rfl) (Nat.le_of_ble_eq_true rfl) qR <| zO (out := []) rfl) (fun b30 => ?_)
    refine yR rfl x9 el45 rfl rfl qP qM (by rw [List.append_nil]; exact obC_len (uob k (grp ps x))) (fun u hu => by rw [List.append_nil] at hu; exact one_ob (o := uob k (grp ps x)) u hu) qI qI (fun a31 c31 => ?_)
    refine yv sc24 rfl rfl rfl qU qE ?_
    refine z7 (zI (y4 (sz := 34) _ (((grI ps (n6 + 1)).map (uob k)).map obC) qP (by rw [grI_s, ← hJ, ← hxp, List.map_append, List.map_append, List.append_nil]; rfl) ?_))
    refine y4 (sz := 33) _ (((grI ps (n6 + 1)).map (upt k)).map ptC) qP (by rw [grI_s, ← hJ, ← hxp, List.map_append, List.map_append, List.append_nil]; rfl) ?_
    refine T.mkJ (J := (fun (pre : List (Nat)) => exs fun (a6 : Option Addr) => exs fun (a7 : Option Addr) => exs fun (c6 : Nat) => exs fun (c7 : Nat) => exs fun (n6 : Nat) => pur (pre.length = n6 ∧ n6 ≤ gN n) (all [cl b6 47 [.slice a6 n6 c6], cl b7 24 [.slice a7 n6 c7], own 33 51 a6 n6 c6 (((grI ps n6).map (upt k)).map ptC), own 34 45 a7 n6 c7 (((grI ps n6).map (uob k)).map obC)]) : List (Nat) → Asn) (pre ++ [x])) (L := (fun (pre : List (Nat)) (a6 : Option Addr) (a7 : Option Addr) (c6 : Nat) (c7 : Nat) (n6 : Nat) => ([cl b6 47 [.slice a6 n6 c6], cl b7 24 [.slice a7 n6 c7], own 33 51 a6 n6 c6 (((grI ps n6).map (upt k)).map ptC), own 34 45 a7 n6 c7 (((grI ps n6).map (uob k)).map obC)] : List Asn)) (pre ++ [x]) (_) (_) (_) (_) (n6 + 1)) qS (yG (_) (yG (_) (yG (_) (yG (_) (yG (n6 + 1) (pur.in ⟨by rw [List.length_append]; simp only [List.length_singleton]; omega, by omega⟩ (Ent.refl _))))))) ?_
    exact T.roundEnd hr1 qP qD qF
 ·intro b1 xs hxs
  refine yY qP (fun a6 => ?_)
  refine yY qP (fun a7 => ?_)
  refine yY qP (fun c6 => ?_)
  refine yY qP (fun c7 => ?_)
  refine yY qP (fun n6 => ?_)
  refine T.pur qP (fun hJ => ?_)
  refine T.unfold _ qP rfl qA ?_
  subst hxs
  obtain ⟨hJ, hJ2⟩ := hJ
  rw [List.length_range] at hJ
  obtain rfl : gN n = n6 := hJ
  refine y4 (sz := 33) _ ((upP k ps).map ptC) qP (by unfold upP grps; rw [hpl]) ?_
  refine y4 (sz := 34) _ ((upO k ps).map obC) qP (by unfold upO grps; rw [hpl]) ?_
  refine zI (z4 (z6 (yC qk qk (zh rfl sc47 rfl qC ?_))))
  refine zh rfl sc24 rfl qC ?_
  refine z9 rfl rfl (z9 rfl rfl (yA (z4 (zi (T.unmark (.inl rfl) qP ?_)))))
  exact xe rfl rfl rfl ⟨_, _, _, _, _, _, rfl, rfl, rfl, rfl, rfl⟩ qD qF
end Cv
set_option maxRecDepth 10000
namespace Cv
open Go Go.Proofs
/-! ## merkle.Build: the plain model -/
def zID : ID32 := ⟨List.replicate 32 0, rfl⟩
def zP : Pt := (zID, 0)
def lf (c : List UInt8) : Pt := (oI 1 c, (c.length : Int))
def lo (c : List UInt8) : Ob := (1, oI 1 c, c)
def lvR : Nat → Nat → List Pt → List Ob → List Pt × List Ob
  | 0, _, ps, os => (ps, os)
  | f + 1, k, ps, os => if k = 1 ∨ 1 < ps.length then lvR f (k + 1) (upP k ps) (os ++ upO k ps) else (ps, os)
theorem lvR_s {f k : Nat} {ps : List Pt} {os : List Ob} (h : k = 1 ∨ 1 < ps.length) : lvR (f + 1) k ps os = lvR f (k + 1) (upP k ps) (os ++ upO k ps) := by rw [lvR, if_pos h]
theorem lvR_z {f k : Nat} {ps : List Pt} {os : List Ob} (h : ¬(k = 1 ∨ 1 < ps.length)) : lvR f k ps os = (ps, os) := by
  cases f with
  | zero => rfl
  | succ f => rw [lvR, if_neg h]
def badC (c : List UInt8) : Prop := c = [] ∨ 256 < c.length
instance (c : List UInt8) : Decidable (badC c) := by unfold badC; infer_instance
def bldM (cs : List (List UInt8)) : Pt × List Ob × Int :=
  if ∃ c ∈ cs, badC c then (zP, [], 10)
  else if sizeI (cs.map lf) cs.length = 0 then (zP, [], 10)
  else if 32768 < sizeI (cs.map lf) cs.length then (zP, [], 5)
  else ((lvR (cs.length + 1) 1 (cs.map lf) (cs.map lo)).1.headD zP, (lvR (cs.length + 1) 1 (cs.map lf) (cs.map lo)).2, 0)
theorem bld_bad {cs : List (List UInt8)} {c : List UInt8} {i : Nat} (h : cs[i]? = some c) (hb : badC c) : bldM cs = (zP, [], 10) := by
  unfold bldM; rw [if_pos ⟨c, List.mem_of_getElem? h, hb⟩]
theorem no_bad {cs : List (List UInt8)} (h : ∀ c ∈ cs, ¬ badC c) : ¬ ∃ c ∈ cs, badC c := fun ⟨c, hc, hb⟩ => h c hc hb
theorem bld_0 {cs : List (List UInt8)} (h : ∀ c ∈ cs, ¬ badC c) (h0 : sizeI (cs.map lf) cs.length = 0) : bldM cs = (zP, [], 10) := by
  unfold bldM; rw [if_neg (no_bad h), if_pos h0]
theorem bld_5 {cs : List (List UInt8)} (h : ∀ c ∈ cs, ¬ badC c) (h0 : 32768 < sizeI (cs.map lf) cs.length) : bldM cs = (zP, [], 5) := by
  unfold bldM; rw [if_neg (no_bad h), if_neg (by omega), if_pos h0]
theorem bld_ok {cs : List (List UInt8)} (h : ∀ c ∈ cs, ¬ badC c) (h0 : sizeI (cs.map lf) cs.length ≠ 0) (h1 : sizeI (cs.map lf) cs.length ≤ 32768) {p : Pt} {os : List Ob} (e : lvR (cs.length + 1) 1 (cs.map lf) (cs.map lo) = ([p], os)) : bldM cs = (p, os, 0) := by
  unfold bldM; rw [if_neg (no_bad h), if_neg h0, if_neg (by omega), e]; rfl
theorem good_snoc {cs : List (List UInt8)} {c : List UInt8} {i : Nat} (h : cs[i]? = some c) (hg : ∀ x ∈ cs.take i, ¬ badC x) (hb : ¬ badC c) : ∀ x ∈ cs.take (i + 1), ¬ badC x := fun x hx => by
  rw [List.take_add_one, h] at hx
  rcases List.mem_append.1 hx with hx | hx
  · exact hg x hx
  · have : x = c := by simpa using hx
    rw [this]; exact hb
theorem lf_get {cs : List (List UInt8)} {c : List UInt8} {i : Nat} (h : cs[i]? = some c) : (cs.map lf)[i]? = some (lf c) := by rw [List.getElem?_map, h]; rfl
theorem good_size {cs : List (List UInt8)} (h : ∀ c ∈ cs, ¬ badC c) : ∀ p ∈ cs.map lf, 1 ≤ p.2 ∧ p.2 ≤ 256 := fun p hp => by
  obtain ⟨c, hc, rfl⟩ := List.mem_map.1 hp
  have := h c hc
  simp only [badC, not_or] at this
  have h1 := List.length_pos_iff.2 this.1
  simp only [lf]; omega
theorem size_ge {ps : List Pt} (h : ∀ p ∈ ps, 1 ≤ p.2) : ∀ i, i ≤ ps.length → (i : Int) ≤ sizeI ps i
  | 0, _ => by simp [sizeI]
  | i + 1, hi => by
    have hg : ps[i]? = some (gd ps i) := zJ (by omega)
    have h1 := size_ge h i (by omega)
    have h2 := h _ (List.mem_of_getElem? hg)
    rw [sizeI_s hg]; omega
theorem size_mono {ps : List Pt} (h : ∀ p ∈ ps, 1 ≤ p.2) {i : Nat} : ∀ j, i ≤ j → j ≤ ps.length → sizeI ps i ≤ sizeI ps j
  | 0, hij, _ => by have : i = 0 := by omega
                    subst this; exact Int.le_refl _
  | j + 1, hij, hj => by
    rcases Nat.lt_or_ge j i with hji | hji
    · have : i = j + 1 := by omega
      subst this; exact Int.le_refl _
    · have hg : ps[j]? = some (gd ps j) := zJ (by omega)
      have h2 := h _ (List.mem_of_getElem? hg)
      have := size_mono h j hji (by omega)
      rw [sizeI_s hg]; omega
theorem size_mem {ps : List Pt} (h : ∀ p ∈ ps, 1 ≤ p.2) {p : Pt} (hp : p ∈ ps) : p.2 ≤ sizeP ps := by
  obtain ⟨i, hi, e⟩ := List.mem_iff_getElem.1 hp
  have hg : ps[i]? = some p := by rw [List.getElem?_eq_getElem hi, e]
  have h1 := size_mono h (i := i + 1) ps.length (by omega) (Nat.le_refl _)
  have h2 := size_ge h i (by omega)
  rw [sizeI_s hg] at h1
  unfold sizeP; omega
theorem sizeI_app {l m : List Pt} : sizeP (l ++ m) = sizeP l + sizeP m := by
  unfold sizeP sizeI
  rw [List.take_of_length_le (Nat.le_refl _), List.take_of_length_le (Nat.le_refl _), List.take_of_length_le (Nat.le_refl _), List.foldl_append, foldl_add]
theorem size_take {ps : List Pt} {i : Nat} : sizeP (ps.take i) = sizeI ps i := by
  unfold sizeP sizeI; rw [List.take_of_length_le (Nat.le_refl _)]
theorem size_grI {k : Nat} {ps : List Pt} : ∀ i, sizeP ((grI ps i).map (upt k)) = sizeI ps (8 * i)
  | 0 => rfl
  | i + 1 => by
    rw [grI_s, List.map_append, sizeI_app, size_grI i, ← size_take, ← size_take, show 8 * (i + 1) = 8 * i + 8 by omega, List.take_add, sizeI_app]
    simp only [sizeP, sizeI, List.map_cons, List.map_nil, upt, grp, List.take_of_length_le (Nat.le_refl _), List.foldl_cons, List.foldl_nil, List.length_cons, List.length_nil]
    simp
theorem size_up {k : Nat} {ps : List Pt} : sizeP (upP k ps) = sizeP ps := by
  have h : gN ps.length = (ps.length + 7) / 8 := rfl
  unfold upP grps
  rw [size_grI, sizeP, sizeI, sizeI, List.take_of_length_le (by omega), List.take_of_length_le (Nat.le_refl _)]
theorem up_pos {k : Nat} {ps : List Pt} (h : ∀ p ∈ ps, 1 ≤ p.2) : ∀ p ∈ upP k ps, 1 ≤ p.2 := fun p hp => by
  obtain ⟨g, hg, rfl⟩ := List.mem_map.1 hp
  obtain ⟨i, hi, rfl⟩ := List.mem_map.1 hg
  have h1 : gN ps.length = (ps.length + 7) / 8 := rfl
  have h2 := List.mem_range.1 hi
  have h3 := size_ge (ps := grp ps i) (fun q hq => h q (grp_mem hq)) _ (Nat.le_refl _)
  have h4 := @grp_len ps i
  show 1 ≤ sizeP (grp ps i)
  unfold sizeP; omega
theorem size_good {cs : List (List UInt8)} {i : Nat} (h : ∀ c ∈ cs.take i, ¬ badC c) (hi : i ≤ cs.length) : 0 ≤ sizeI (cs.map lf) i ∧ sizeI (cs.map lf) i ≤ 256 * i := by
  have h1 := sizeI_in (ps := (cs.take i).map lf) (B := 256) (fun p hp => by have := good_size h p hp; omega) i (by rw [List.length_map, List.length_take]; omega)
  have h2 : sizeI ((cs.take i).map lf) i = sizeI (cs.map lf) i := by
    unfold sizeI; rw [← List.map_take, ← List.map_take, List.take_take, Nat.min_self]
  rw [h2] at h1; exact h1

theorem mbuild_spec {n c : Nat} {a : Option Addr} {cs : List (List UInt8)} (hn : n ≤ 1000001) : Spec Tryz.prog 100 [.slice a n c] [rsl 1 a n c (cs.map ys)] [] (fun v D' M' => ∃ (a1 : Option Addr) (n1 c1 : Nat), v = .tuple #[.agg (ptC (bldM cs).1).toArray, .slice a1 n1 c1, .int .i64 (bldM cs).2.2] ∧ ((bldM cs).2.1.length = n1) ∧ D' = [] ∧ M' = [own 34 45 a1 n1 c1 (((bldM cs).2.1).map obC)]) := by
 refine zC (n := 78) Tryz.func100 ?_
 intro σ D M
 refine yH (rows := cs.map ys) qM (fun hpl hpc => ?_)
 rw [List.length_map] at hpl
 
 refine z6 (z8 (zL rfl ze51 (fun b2 => ?_)))
 refine z9 rfl rfl (z9 rfl rfl (z7 (zZ (A := cl b2 51 (Value.int .u8 0 :: .int .u8 0 :: .int .u8 0 :: .int .u8 0 :: .int .u8 0 :: .int .u8 0 :: .int .u8 0 :: .int .u8 0 :: .int .u8 0 :: .int .u8 0 :: .int .u8 0 :: .int .u8 0 :: .int .u8 0 :: .int .u8 0 :: .int .u8 0 :: .int .u8 0 :: .int .u8 0 :: .int .u8 0 :: .int .u8 0 :: .int .u8 0 :: .int .u8 0 :: .int .u8 0 :: .int .u8 0 :: .int .u8 0 :: .int .u8 0 :: .int .u8 0 :: .int .u8 0 :: .int .u8 0 :: .int .u8 0 :: .int .u8 0 :: .int .u8 0 :: .int .u8 0 :: .int .i64 0 :: [])) (B := cl b2 51 (ptC zP)) qP rfl ?_)))
 refine z4 (z6 (z8 (z9 rfl rfl (z7 (yF (sz := 34) (e := 45) ?_)))))
 refine zZ qP (show own 34 45 none 0 0 [] = own 34 45 none 0 0 (((cs.take 0).map lo).map obC) from rfl) ?_
 refine z4 (z6 (z8 (z9 rfl rfl (z7 (yF (sz := 33) (e := 51) ?_)))))
 refine zZ qP (show own 33 51 none 0 0 [] = own 33 51 none 0 0 (((cs.take 0).map lf).map ptC) from rfl) ?_
 refine z4 (z6 (z8 (z9 rfl rfl (z7 (z4 (z6 (z6 (z8 (z5 rfl rfl (y2 rfl yL rfl (z5 rfl rfl (z7 (z4 (zr (zX (fun K' D' M' μ => ∃ (i c5 c6 : Nat) (a5 a6 : Option Addr), (i ≤ n ∧ ∀ x ∈ cs.take i, ¬ badC x) ∧ K' = [(16, .int .i64 (i : Int)), (5, .slice a5 i c5), (6, .slice a6 i c6), (7, .int .i64 (sizeI (cs.map lf) i))] ∧ D' = [] ∧ M' = [cl b2 51 (ptC zP), own 34 45 a5 i c5 (((cs.take i).map lo).map obC), own 33 51 a6 i c6 (((cs.take i).map lf).map ptC)] ∧ μ = n - i) (.c 2 rfl <| .c 14 rfl <| .c 15 rfl <| za _) (⟨0, 0, 0, none, none, ⟨Nat.zero_le _, by simp⟩, rfl, rfl, rfl, rfl⟩) (.c 16 rfl <| .c 5 rfl <| .c 6 rfl <| .c 7 rfl <| za _) qD qS ?_)))))))))))))))
 rintro K1 D1 M1 m1 ⟨i, c5, c6, a5, a6, ⟨hi, hgd⟩, rfl, rfl, rfl, rfl⟩
 refine zF qA qA qA ?_
 refine z6 (z8 (zQ rfl rfl rfl (z7 (z4 (z6 (zo rfl (fun h17 => ?_) (fun h17 => ?_)))))))
 ·try simp only [dq] at h17
  refine zm (z4 (z6 (zr (z6 ?_))))
  have hgi : cs[i]? = some (gd cs i) := zJ jO
  obtain ⟨x, hx_⟩ : ∃ x, x = gd cs i := ⟨_, rfl⟩
  rw [← hx_] at hgi
  have hgr : (cs.map ys)[i]? = some (ys x) := zU hgi
  refine z8 (yI (i := i) rfl yL sz9 rfl rfl qM jR qG (fun b18 o18 => ?_))
  refine zh rfl sc9 rfl qC ?_
  refine z9 rfl rfl (z7 (z4 (z6 (z6 (z8 (z5 rfl rfl (L.eqS rfl rfl rfl ?_)))))))
  refine z5 rfl rfl (yM (t := 22) rfl (fun h1 => ?_) (fun h1 => ?_))
  ·try simp only [dq] at h1
   refine zg (dj := 22) (c := true) rfl rfl rfl rfl rfl jD (zg (dj := 22) (c := true) rfl rfl rfl rfl rfl jD (zg (dj := 22) (c := true) rfl rfl rfl rfl rfl jD (ye rfl rfl rfl (z7 (z4 (xk rfl rfl ?_))))))
   refine z6 (z8 (yw rfl bu51 (zO (out := (Value.int .u8 0 :: .int .u8 0 :: .int .u8 0 :: .int .u8 0 :: .int .u8 0 :: .int .u8 0 :: .int .u8 0 :: .int .u8 0 :: .int .u8 0 :: .int .u8 0 :: .int .u8 0 :: .int .u8 0 :: .int .u8 0 :: .int .u8 0 :: .int .u8 0 :: .int .u8 0 :: .int .u8 0 :: .int .u8 0 :: .int .u8 0 :: .int .u8 0 :: .int .u8 0 :: .int .u8 0 :: .int .u8 0 :: .int .u8 0 :: .int .u8 0 :: .int .u8 0 :: .int .u8 0 :: .int .u8 0 :: .int .u8 0 :: .int .u8 0 :: .int .u8 0 :: .int .u8 0 :: .int .i64 0 :: [])) rfl) ?_))
   refine zE ag51 rfl rfl qL qO qU qW ?_
   refine z9 rfl rfl (z9 rfl rfl (z7 (zZ (A := cl b2 51 (Value.int .u8 0 :: .int .u8 0 :: .int .u8 0 :: .int .u8 0 :: .int .u8 0 :: .int .u8 0 :: .int .u8 0 :: .int .u8 0 :: .int .u8 0 :: .int .u8 0 :: .int .u8 0 :: .int .u8 0 :: .int .u8 0 :: .int .u8 0 :: .int .u8 0 :: .int .u8 0 :: .int .u8 0 :: .int .u8 0 :: .int .u8 0 :: .int .u8 0 :: .int .u8 0 :: .int .u8 0 :: .int .u8 0 :: .int .u8 0 :: .int .u8 0 :: .int .u8 0 :: .int .u8 0 :: .int .u8 0 :: .int .u8 0 :: .int .u8 0 :: .int .u8 0 :: .int .u8 0 :: .int .i64 0 :: [])) (B := cl b2 51 (ptC zP)) qP rfl ?_)))
   refine yF (sz := 34) (e := 45) ?_
   refine zZ qP (show own 34 45 none 0 0 [] = own 34 45 none 0 0 ((([] : List Ob)).map obC) from rfl) ?_
   refine z4 (zi (zD (y3 (zD (zD (y3 (zD ?_)))))))
   rw [bld_bad hgi (Or.inl h1)]
   exact T.retATT rfl ag51 rfl qN rfl rfl ⟨_, _, _, rfl, rfl, rfl, rfl⟩ qD qF
  ·try simp only [dq] at h1
   refine zf (dj := 22) rfl rfl rfl (z5 rfl rfl (zf (dj := 22) rfl rfl rfl (xj rfl yy rfl (zf (dj := 22) rfl rfl rfl (yB rfl rfl rfl (y5 rfl rfl rfl (z7 (z4 (zo rfl (fun h26 => ?_) (fun h26 => ?_))))))))))
   ·try simp only [dq] at h26
    refine z6 (z8 (yw rfl bu51 (zO (out := (Value.int .u8 0 :: .int .u8 0 :: .int .u8 0 :: .int .u8 0 :: .int .u8 0 :: .int .u8 0 :: .int .u8 0 :: .int .u8 0 :: .int .u8 0 :: .int .u8 0 :: .int .u8 0 :: .int .u8 0 :: .int .u8 0 :: .int .u8 0 :: .int .u8 0 :: .int .u8 0 :: .int .u8 0 :: .int .u8 0 :: .int .u8 0 :: .int .u8 0 :: .int .u8 0 :: .int .u8 0 :: .int .u8 0 :: .int .u8 0 :: .int .u8 0 :: .int .u8 0 :: .int .u8 0 :: .int .u8 0 :: .int .u8 0 :: .int .u8 0 :: .int .u8 0 :: .int .u8 0 :: .int .i64 0 :: [])) rfl) ?_))
    refine zE ag51 rfl rfl qL qO qU qW ?_
    refine z9 rfl rfl (z9 rfl rfl (z7 (zZ (A := cl b2 51 (Value.int .u8 0 :: .int .u8 0 :: .int .u8 0 :: .int .u8 0 :: .int .u8 0 :: .int .u8 0 :: .int .u8 0 :: .int .u8 0 :: .int .u8 0 :: .int .u8 0 :: .int .u8 0 :: .int .u8 0 :: .int .u8 0 :: .int .u8 0 :: .int .u8 0 :: .int .u8 0 :: .int .u8 0 :: .int .u8 0 :: .int .u8 0 :: .int .u8 0 :: .int .u8 0 :: .int .u8 0 :: .int .u8 0 :: .int .u8 0 :: .int .u8 0 :: .int .u8 0 :: .int .u8 0 :: .int .u8 0 :: .int .u8 0 :: .int .u8 0 :: .int .u8 0 :: .int .u8 0 :: .int .i64 0 :: [])) (B := cl b2 51 (ptC zP)) qP rfl ?_)))
    refine yF (sz := 34) (e := 45) ?_
    refine zZ qP (show own 34 45 none 0 0 [] = own 34 45 none 0 0 ((([] : List Ob)).map obC) from rfl) ?_
    refine z4 (zi (zD (y3 (zD (zD (y3 (zD ?_)))))))
    rw [bld_bad hgi (Or.inr jO)]
    exact T.retATT rfl ag51 rfl qN rfl rfl ⟨_, _, _, rfl, rfl, rfl, rfl⟩ qD qF
   ·try simp only [dq] at h26
    refine zm (z4 (z6 ?_))
    have hob := obC_len (1, oI 1 x, x)
    have ho32 := (oI 1 x).2
    have hlf := ptC_len (lf x)
    refine z8 (z5 rfl rfl (zW rfl (ev2 rfl rfl) qD qS (make_spec (k := 1) (tx := x) jO) jF ?_))
    refine zL rfl ze45 (fun b10 => ?_)
    refine zE ag45 rfl rfl qL qO qU qW ?_
    refine z7 (y1 (A := cl b10 45 (obC (1, oI 1 x, x))) qP ?_)
    refine z4 (z6 (z8 (z5 rfl rfl (zp rfl ag45 rfl qN ?_))))
    refine yh rfl bs24 jD (yQ rfl rfl (by first | with_reducible assumption | (simp; done) | (simp only [List.length_map]; with_reducible assumption) | (simp [*]; done) | rfl) (Nat.le_of_ble_eq_true rfl) qR <| zO (out := []) rfl) (fun b32 => ?_)
    refine yR rfl x9 el45 rfl rfl qP qM (by rw [List.append_nil]; exact hob) (fun u hu => by rw [List.append_nil] at hu; exact one_ob (o := (1, oI 1 x, x)) u hu) qI qI (fun a33 c33 => ?_)
    refine z9 rfl rfl (z7 (z4 (z6 (z8 (z5 rfl rfl (zj rfl fo45_1 rfl ?_))))))
    refine zp rfl zu rfl qN ?_
    refine z5 rfl rfl (xj rfl yy rfl (yw rfl bu51 (yQ rfl rfl (by first | with_reducible assumption | (simp; done) | (simp only [List.length_map]; with_reducible assumption) | (simp [*]; done) | rfl) (Nat.le_of_ble_eq_true rfl) qR <| zB rfl rfl rfl <| zO (out := []) rfl) ?_))
    refine zv (t := 39) (u := .agg (ptC (lf x)).toArray) rfl (by first | rfl | simp) ?_
    refine yh rfl bs47 jD (yQ rfl rfl (by first | with_reducible assumption | (simp; done) | (simp only [List.length_map]; with_reducible assumption) | (simp [*]; done) | rfl) (Nat.le_of_ble_eq_true rfl) qR <| zO (out := []) rfl) (fun b40 => ?_)
    refine yR rfl x7 el51 rfl rfl qP qM (by rw [List.append_nil]; exact hlf) (fun u hu => by rw [List.append_nil] at hu; exact one_pt (p := lf x) u hu) qI qI (fun a41 c41 => ?_)
    refine z9 rfl rfl (z7 (z4 ?_))
    have hsz := sizeI_s (lf_get hgi)
    rw [show (lf x).2 = (x.length : Int) from rfl] at hsz
    have hsg := size_good hgd jO
    refine z8 (z5 rfl rfl (z5 rfl rfl (xj rfl yy rfl (zH rfl rfl rfl jO ?_))))
    refine zv (t := 45) (u := .int .i64 (sizeI (cs.map lf) (i + 1))) rfl (congrArg (Value.int .i64) hsz.symm) ?_
    refine z9 rfl rfl (z7 (zI (z4 (z8 (zH rfl rfl rfl jO ?_)))))
    refine z5 rfl rfl (z7 (z4 (y4 (sz := 34) _ ((cs.take (i + 1)).map lo |>.map obC) qP (by rw [List.take_add_one, hgi]; simp [lo]) ?_)))
    refine y4 (sz := 33) _ ((cs.take (i + 1)).map lf |>.map ptC) qP (by rw [List.take_add_one, hgi]; simp [lf]) ?_
    exact zM ⟨i + 1, _, _, _, _, ⟨by omega, good_snoc hgi hgd (by simp only [badC, not_or]; exact ⟨h1, by omega⟩)⟩, rfl, rfl, rfl, rfl⟩ qI (.c 16 rfl <| .c 5 rfl <| .c 6 rfl <| .c 7 rfl <| za _) (.c 2 rfl <| .c 14 rfl <| .c 15 rfl <| za _) qD qD qF
 ·try simp only [dq] at h17
  subst hpl
  obtain rfl : i = cs.length := by omega
  rw [List.take_length] at hgd
  rw [List.take_length]
  refine zR (zq (zq (zS (z4 (z6 (zr (z6 (z8 (z5 rfl rfl (yj rfl rfl rfl (z9 rfl rfl (z7 (z4 (zo rfl (fun h47 => ?_) (fun h47 => ?_)))))))))))))))
  ·try simp only [dq] at h47
   refine z6 (z8 (yw rfl bu51 (zO (out := (Value.int .u8 0 :: .int .u8 0 :: .int .u8 0 :: .int .u8 0 :: .int .u8 0 :: .int .u8 0 :: .int .u8 0 :: .int .u8 0 :: .int .u8 0 :: .int .u8 0 :: .int .u8 0 :: .int .u8 0 :: .int .u8 0 :: .int .u8 0 :: .int .u8 0 :: .int .u8 0 :: .int .u8 0 :: .int .u8 0 :: .int .u8 0 :: .int .u8 0 :: .int .u8 0 :: .int .u8 0 :: .int .u8 0 :: .int .u8 0 :: .int .u8 0 :: .int .u8 0 :: .int .u8 0 :: .int .u8 0 :: .int .u8 0 :: .int .u8 0 :: .int .u8 0 :: .int .u8 0 :: .int .i64 0 :: [])) rfl) ?_))
   refine zE ag51 rfl rfl qL qO qU qW ?_
   refine z9 rfl rfl (z9 rfl rfl (z7 (zZ (A := cl b2 51 (Value.int .u8 0 :: .int .u8 0 :: .int .u8 0 :: .int .u8 0 :: .int .u8 0 :: .int .u8 0 :: .int .u8 0 :: .int .u8 0 :: .int .u8 0 :: .int .u8 0 :: .int .u8 0 :: .int .u8 0 :: .int .u8 0 :: .int .u8 0 :: .int .u8 0 :: .int .u8 0 :: .int .u8 0 :: .int .u8 0 :: .int .u8 0 :: .int .u8 0 :: .int .u8 0 :: .int .u8 0 :: .int .u8 0 :: .int .u8 0 :: .int .u8 0 :: .int .u8 0 :: .int .u8 0 :: .int .u8 0 :: .int .u8 0 :: .int .u8 0 :: .int .u8 0 :: .int .u8 0 :: .int .i64 0 :: [])) (B := cl b2 51 (ptC zP)) qP rfl ?_)))
   refine yF (sz := 34) (e := 45) ?_
   refine zZ qP (show own 34 45 none 0 0 [] = own 34 45 none 0 0 ((([] : List Ob)).map obC) from rfl) ?_
   refine z4 (zi (y3 (zD ?_)))
   rw [bld_0 hgd h47]
   exact T.retATT rfl ag51 rfl qN rfl rfl ⟨_, _, _, rfl, rfl, rfl, rfl⟩ qD qF
  ·try simp only [dq] at h47
   refine z6 (z8 (z5 rfl rfl (yB rfl rfl rfl (z9 rfl rfl (z7 (z4 (zo rfl (fun h51 => ?_) (fun h51 => ?_))))))))
   ·try simp only [dq] at h51
    refine z6 (z8 (yw rfl bu51 (zO (out := (Value.int .u8 0 :: .int .u8 0 :: .int .u8 0 :: .int .u8 0 :: .int .u8 0 :: .int .u8 0 :: .int .u8 0 :: .int .u8 0 :: .int .u8 0 :: .int .u8 0 :: .int .u8 0 :: .int .u8 0 :: .int .u8 0 :: .int .u8 0 :: .int .u8 0 :: .int .u8 0 :: .int .u8 0 :: .int .u8 0 :: .int .u8 0 :: .int .u8 0 :: .int .u8 0 :: .int .u8 0 :: .int .u8 0 :: .int .u8 0 :: .int .u8 0 :: .int .u8 0 :: .int .u8 0 :: .int .u8 0 :: .int .u8 0 :: .int .u8 0 :: .int .u8 0 :: .int .u8 0 :: .int .i64 0 :: [])) rfl) ?_))
    refine zE ag51 rfl rfl qL qO qU qW ?_
    refine z9 rfl rfl (z9 rfl rfl (z7 (zZ (A := cl b2 51 (Value.int .u8 0 :: .int .u8 0 :: .int .u8 0 :: .int .u8 0 :: .int .u8 0 :: .int .u8 0 :: .int .u8 0 :: .int .u8 0 :: .int .u8 0 :: .int .u8 0 :: .int .u8 0 :: .int .u8 0 :: .int .u8 0 :: .int .u8 0 :: .int .u8 0 :: .int .u8 0 :: .int .u8 0 :: .int .u8 0 :: .int .u8 0 :: .int .u8 0 :: .int .u8 0 :: .int .u8 0 :: .int .u8 0 :: .int .u8 0 :: .int .u8 0 :: .int .u8 0 :: .int .u8 0 :: .int .u8 0 :: .int .u8 0 :: .int .u8 0 :: .int .u8 0 :: .int .u8 0 :: .int .i64 0 :: [])) (B := cl b2 51 (ptC zP)) qP rfl ?_)))
    refine yF (sz := 34) (e := 45) ?_
    refine zZ qP (show own 34 45 none 0 0 [] = own 34 45 none 0 0 ((([] : List Ob)).map obC) from rfl) ?_
    refine z4 (zi (y3 (zD ?_)))
    rw [bld_5 hgd h51]
    exact T.retATT rfl ag51 rfl qN rfl rfl ⟨_, _, _, rfl, rfl, rfl, rfl⟩ qD qF
   ·try simp only [dq] at h51
    have hps := good_size hgd
    have hpos : ∀ p ∈ cs.map lf, 1 ≤ p.2 := fun p hp => (hps p hp).1
    have h1n : 1 ≤ cs.length := Nat.pos_of_ne_zero fun e => h47 (by rw [e]; rfl)
    have hge := size_ge hpos cs.length (by rw [List.length_map]; exact Nat.le_refl _)
    have hsm : sizeP (cs.map lf) ≤ 32768 := by unfold sizeP; rw [List.length_map]; omega
    refine zm (zI (z4 (z6 (z6 (z8 (z9 rfl rfl (z7 (z4 (zr (zX (fun K' D' M' μ => ∃ (k f n5 n6 c5 c6 : Nat) (a5 a6 : Option Addr) (ps : List Pt) (os : List Ob), ((ps.length = n6 ∧ os.length = n5) ∧ (1 ≤ k ∧ 1 ≤ n6 ∧ k + f ≤ 40000 ∧ n5 ≤ 40000 * k) ∧ ((k = 1 ∧ n6 + 1 ≤ f) ∨ (2 ≤ k ∧ n6 ≤ f)) ∧ lvR f k ps os = lvR (cs.length + 1) 1 (cs.map lf) (cs.map lo) ∧ (∀ p ∈ ps, 1 ≤ p.2) ∧ sizeP ps ≤ 32768) ∧ K' = [(11, .int .i64 (k : Int)), (5, .slice a5 n5 c5), (6, .slice a6 n6 c6)] ∧ D' = [] ∧ M' = [cl b2 51 (ptC zP), own 34 45 a5 n5 c5 ((os).map obC), own 33 51 a6 n6 c6 ((ps).map ptC)] ∧ μ = 2 * f) (.c 2 rfl <| za _) (⟨1, cs.length + 1, cs.length, cs.length, _, _, _, _, cs.map lf, cs.map lo, ⟨⟨List.length_map _, List.length_map _⟩, ⟨Nat.le_refl _, h1n, by omega, by omega⟩, Or.inl ⟨rfl, Nat.le_refl _⟩, rfl, hpos, hsm⟩, rfl, rfl, rfl, rfl⟩) (.c 11 rfl <| .c 5 rfl <| .c 6 rfl <| za _) qD qS ?_))))))))))
    rintro K1 D1 M1 m1 ⟨k, f, n5, n6, c5, c6, a5, a6, ps, os, ⟨⟨hpn, hon_⟩, ⟨hk1, hn6, hkf, hn5⟩, hf, hlv, hpos, hsm⟩, rfl, rfl, rfl, rfl⟩
    refine zF qA qA qA ?_
    refine z6 (z6 (z8 (z5 rfl rfl (yj rfl rfl rfl (z5 rfl rfl (yM (t := 57) rfl (fun h2 => ?_) (fun h2 => ?_)))))))
    ·try simp only [dq] at h2
     refine zg (dj := 57) (c := true) rfl rfl rfl rfl rfl jD (zg (dj := 57) (c := true) rfl rfl rfl rfl rfl jD (zg (dj := 57) (c := true) rfl rfl rfl rfl rfl jD (ye rfl rfl rfl (z7 (z4 (xk rfl rfl ?_))))))
     refine zm (z4 (z6 (zr (z6 ?_))))
     have hco : k = 1 ∨ 1 < ps.length := by omega
     obtain ⟨f2, rfl⟩ : ∃ f2, f = f2 + 1 := ⟨f - 1, by omega⟩
     rw [lvR_s hco] at hlv
     have hps : ∀ p ∈ ps, 0 ≤ p.2 ∧ p.2 ≤ 1000000000 := fun p hp => ⟨by have := hpos p hp; omega, by have := size_mem hpos hp; omega⟩
     have hgn : gN n6 = (n6 + 7) / 8 := rfl
     refine yD (rows := ps.map ptC) qP ?_
     refine z8 (z5 rfl rfl (z5 rfl rfl (zx rfl (ev2 rfl rfl) qD qS (level_spec (k := k) (ps := ps) jO jO hps) ?_)))
     rintro _ _ _ ⟨ua, oa, un, uc, on, oc, rfl, hun, hon, rfl, rfl⟩
     refine zt qA qA ?_
     refine z5 rfl rfl (zG rfl rfl rfl (zG rfl rfl rfl (z9 rfl rfl (z9 rfl rfl (z7 (z4 (yD (rows := (upO k ps).map obC) qP ?_)))))))
     refine z8 (z5 rfl rfl (z5 rfl rfl (z5 rfl rfl (xy rfl x9 x9 el45 rfl rfl qP (rd_D qM) one_obs qI qI (fun a73 c73 => ?_)))))
     refine z9 rfl rfl (z9 rfl rfl (z7 (zI (z4 (z8 (z5 rfl rfl (zH rfl rfl rfl jO ?_)))))))
     refine z9 rfl rfl (z7 (z4 (y4 (sz := 34) _ ((os ++ upO k ps).map obC) qP (by rw [List.map_append]) ?_)))
     exact zM ⟨k + 1, f2, n5 + on, un, _, _, _, _, upP k ps, os ++ upO k ps, ⟨⟨by rw [upP_len, hpn, hun], by rw [List.length_append, upO_len, hpn, hon_, hon]⟩, ⟨by omega, by omega, by omega, by omega⟩, Or.inr ⟨by omega, by omega⟩, hlv, up_pos hpos, by rw [size_up]; exact hsm⟩, rfl, rfl, rfl, rfl⟩ qI (.c 11 rfl <| .c 5 rfl <| .c 6 rfl <| za _) (.c 2 rfl <| za _) qD qD qF
    ·try simp only [dq] at h2
     refine zf (dj := 57) rfl rfl rfl (z5 rfl rfl (zf (dj := 57) rfl rfl rfl (y2 rfl x7 rfl (zf (dj := 57) rfl rfl rfl (yB rfl rfl rfl (y5 rfl rfl rfl (z7 (z4 (zo rfl (fun h61 => ?_) (fun h61 => ?_))))))))))
     ·try simp only [dq] at h61
      refine zm (z4 (z6 (zr (z6 ?_))))
      have hco : k = 1 ∨ 1 < ps.length := by omega
      obtain ⟨f2, rfl⟩ : ∃ f2, f = f2 + 1 := ⟨f - 1, by omega⟩
      rw [lvR_s hco] at hlv
      have hps : ∀ p ∈ ps, 0 ≤ p.2 ∧ p.2 ≤ 1000000000 := fun p hp => ⟨by have := hpos p hp; omega, by have := size_mem hpos hp; omega⟩
      have hgn : gN n6 = (n6 + 7) / 8 := rfl
      refine yD (rows := ps.map ptC) qP ?_
      refine z8 (z5 rfl rfl (z5 rfl rfl (zx rfl (ev2 rfl rfl) qD qS (level_spec (k := k) (ps := ps) jO jO hps) ?_)))
      rintro _ _ _ ⟨ua, oa, un, uc, on, oc, rfl, hun, hon, rfl, rfl⟩
      refine zt qA qA ?_
      refine z5 rfl rfl (zG rfl rfl rfl (zG rfl rfl rfl (z9 rfl rfl (z9 rfl rfl (z7 (z4 (yD (rows := (upO k ps).map obC) qP ?_)))))))
      refine z8 (z5 rfl rfl (z5 rfl rfl (z5 rfl rfl (xy rfl x9 x9 el45 rfl rfl qP (rd_D qM) one_obs qI qI (fun a73 c73 => ?_)))))
      refine z9 rfl rfl (z9 rfl rfl (z7 (zI (z4 (z8 (z5 rfl rfl (zH rfl rfl rfl jO ?_)))))))
      refine z9 rfl rfl (z7 (z4 (y4 (sz := 34) _ ((os ++ upO k ps).map obC) qP (by rw [List.map_append]) ?_)))
      exact zM ⟨k + 1, f2, n5 + on, un, _, _, _, _, upP k ps, os ++ upO k ps, ⟨⟨by rw [upP_len, hpn, hun], by rw [List.length_append, upO_len, hpn, hon_, hon]⟩, ⟨by omega, by omega, by omega, by omega⟩, Or.inr ⟨by omega, by omega⟩, hlv, up_pos hpos, by rw [size_up]; exact hsm⟩, rfl, rfl, rfl, rfl⟩ qI (.c 11 rfl <| .c 5 rfl <| .c 6 rfl <| za _) (.c 2 rfl <| za _) qD qD qF
     ·try simp only [dq] at h61
      obtain ⟨p, rfl⟩ : ∃ p, ps = [p] := List.length_eq_one_iff.1 jO
      rw [lvR_z (by simp only [List.length_singleton]; omega)] at hlv
      refine yD (rows := [p].map ptC) qP ?_
      have hgr : ([p].map ptC)[0]? = some (ptC p) := rfl
      have hp33 := ptC_len p
      refine zZ (A := cl b2 51 (ptC zP)) (B := cl b2 51 (Value.int .u8 0 :: .int .u8 0 :: .int .u8 0 :: .int .u8 0 :: .int .u8 0 :: .int .u8 0 :: .int .u8 0 :: .int .u8 0 :: .int .u8 0 :: .int .u8 0 :: .int .u8 0 :: .int .u8 0 :: .int .u8 0 :: .int .u8 0 :: .int .u8 0 :: .int .u8 0 :: .int .u8 0 :: .int .u8 0 :: .int .u8 0 :: .int .u8 0 :: .int .u8 0 :: .int .u8 0 :: .int .u8 0 :: .int .u8 0 :: .int .u8 0 :: .int .u8 0 :: .int .u8 0 :: .int .u8 0 :: .int .u8 0 :: .int .u8 0 :: .int .u8 0 :: .int .u8 0 :: .int .i64 0 :: [])) qP rfl ?_
      refine zR (zq (zq (zS (z4 (z6 (z8 (z5 rfl rfl (yI (i := 0) rfl x7 sz51 rfl rfl qM jR qG (fun b75 o75 => ?_)))))))))
      refine zp rfl ag51 rfl (x8 qM (ptC_len _)) ?_
      refine z5 rfl rfl (zE ag51 rfl rfl qL qO qU qW ?_)
      refine z9 rfl rfl (z9 rfl rfl (z7 (z4 (zi ?_))))
      rw [bld_ok hgd h47 jO hlv.symm]
      exact T.retATT rfl ag51 rfl qN rfl rfl ⟨_, _, _, rfl, hon_, rfl, rfl⟩ qD qF
end Cv
