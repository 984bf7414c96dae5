/-
  The walks: nodes.
-/
import Derived.Test.YtncgoodlhmpfcaaGreatGH11
import Derived.Test.YtncgoodlhmpfcaaGreatB06
set_option linter.all false
set_option maxHeartbeats 400000
set_option maxRecDepth 10000
namespace Cv
open Go Go.Proofs
/-! ## merkle: the plain model -/
abbrev Pt := ID32 × Int
abbrev Ob := Int × ID32 × List UInt8
@[reducible] def ptC (p : Pt) : List Value := p.1.1.map Y ++ [.int .i64 p.2]
@[reducible] def obC (o : Ob) : List Value := .int .i64 o.1 :: (o.2.1.1.map Y ++ [S o.2.2])
theorem ptC_len (p : Pt) : (ptC p).length = 33 := by simp [p.1.2]
theorem obC_len (o : Ob) : (obC o).length = 34 := by simp [o.2.1.2]
theorem one_pt {p : Pt} : ∀ u ∈ ptC p, u.oneCell' = true := fun u hu => by
  simp only [ptC, List.mem_append, List.mem_map, List.mem_cons, List.not_mem_nil, or_false] at hu
  rcases hu with ⟨b, _, rfl⟩ | rfl <;> rfl
theorem one_ob {o : Ob} : ∀ u ∈ obC o, u.oneCell' = true := fun u hu => by
  simp only [obC, List.mem_cons, List.mem_append, List.mem_map, List.not_mem_nil, or_false] at hu
  rcases hu with rfl | ⟨b, _, rfl⟩ | rfl <;> rfl
theorem one_obs {l : List Ob} : ∀ u ∈ (l.map obC).flatten, u.oneCell' = true := fun u hu => by
  obtain ⟨r, hr, hu⟩ := List.mem_flatten.1 hu
  obtain ⟨x, _, rfl⟩ := List.mem_map.1 hr
  exact one_ob u hu
def oI (k : Int) (t : List UInt8) : ID32 := ⟨oidF k t, oidF_len k t⟩
theorem oI_val {k : Int} {t : List UInt8} : (oI k t).1 = oidF k t := by simp only [oI]
def ptB (p : Pt) : List UInt8 := p.1.1 ++ numB p.2.toNat
def nodeP (k : Nat) (ps : List Pt) (i : Nat) : List UInt8 := numB k ++ numB ps.length ++ (ps.take i).flatMap ptB
def nodeT (k : Nat) (ps : List Pt) : List UInt8 := nodeP k ps ps.length
theorem nodeP_s {k : Nat} {ps : List Pt} {i : Nat} {p : Pt} (h : ps[i]? = some p) : nodeP k ps (i + 1) = nodeP k ps i ++ ptB p := by
  unfold nodeP
  rw [List.take_add_one, h, List.flatMap_append]
  simp
theorem ptB_len {p : Pt} (h : p.2 ≤ 9223372036854775807) : (ptB p).length ≤ 41 := by
  have h1 := numB_len (n := p.2.toNat) (by omega)
  have h2 := p.1.2
  unfold ptB; rw [List.length_append]; omega
theorem nodeP_len {k : Nat} {ps : List Pt} (hk : k ≤ 1000000) (hl : ps.length ≤ 1000000) (hp : ∀ p ∈ ps, p.2 ≤ 9223372036854775807) : ∀ i, (nodeP k ps i).length ≤ 18 + 41 * i := fun i => by
  have h1 := numB_len (n := k) (by omega)
  have h2 := numB_len (n := ps.length) (by omega)
  have h3 : ∀ l : List Pt, (∀ p ∈ l, p.2 ≤ 9223372036854775807) → (l.flatMap ptB).length ≤ 41 * l.length := by
    intro l
    induction l with
    | nil => intro _; simp
    | cons p l ih =>
      intro h
      have a := ptB_len (h p (by simp))
      have b := ih (fun q hq => h q (by simp [hq]))
      rw [List.flatMap_cons, List.length_append, List.length_cons]; omega
  have h4 := h3 (ps.take i) (fun p hq => hp p (List.mem_of_mem_take hq))
  have h5 : (ps.take i).length ≤ i := by rw [List.length_take]; omega
  unfold nodeP
  rw [List.length_append, List.length_append]; omega
def sizeI (ps : List Pt) (i : Nat) : Int := (ps.take i).foldl (fun k p => k + p.2) 0
def sizeP (ps : List Pt) : Int := sizeI ps ps.length
theorem sizeI_s {ps : List Pt} {i : Nat} {p : Pt} (h : ps[i]? = some p) : sizeI ps (i + 1) = sizeI ps i + p.2 := by
  unfold sizeI; rw [List.take_add_one, h, List.foldl_append]; rfl
theorem foldl_add (l : List Pt) : ∀ a : Int, l.foldl (fun k p => k + p.2) a = a + l.foldl (fun k p => k + p.2) 0 := by
  induction l with
  | nil => intro a; simp
  | cons p l ih => intro a; rw [List.foldl_cons, List.foldl_cons, ih (a + p.2), ih (0 + p.2)]; omega
theorem sizeI_in {ps : List Pt} {B : Int} (hp : ∀ p ∈ ps, 0 ≤ p.2 ∧ p.2 ≤ B) : ∀ i, i ≤ ps.length → 0 ≤ sizeI ps i ∧ sizeI ps i ≤ B * i
  | 0, _ => by simp [sizeI]
  | i + 1, h => by
    have hg : ps[i]? = some (gd ps i) := y9 (by omega)
    have h1 := sizeI_in hp i (by omega)
    have h2 := hp _ (List.mem_of_getElem? hg)
    rw [sizeI_s hg]
    refine ⟨by omega, ?_⟩
    rw [show B * ((i + 1 : Nat) : Int) = B * (i : Int) + B by rw [Int.natCast_add, Int.mul_add]; simp]
    omega
def grp (ps : List Pt) (i : Nat) : List Pt := (ps.drop (8 * i)).take 8
def gN (n : Nat) : Nat := (n + 7) / 8
def grI (ps : List Pt) (i : Nat) : List (List Pt) := (List.range i).map (grp ps)
def grps (ps : List Pt) : List (List Pt) := grI ps (gN ps.length)
theorem grI_s {ps : List Pt} {i : Nat} : grI ps (i + 1) = grI ps i ++ [grp ps i] := by unfold grI; rw [List.range_succ, List.map_append]; rfl
def upt (k : Nat) (g : List Pt) : Pt := (oI 2 (nodeT k g), sizeP g)
def uob (k : Nat) (g : List Pt) : Ob := (2, oI 2 (nodeT k g), nodeT k g)
def upP (k : Nat) (ps : List Pt) : List Pt := (grps ps).map (upt k)
def upO (k : Nat) (ps : List Pt) : List Ob := (grps ps).map (uob k)
theorem upP_len {k : Nat} {ps : List Pt} : (upP k ps).length = gN ps.length := by unfold upP grps grI; simp
theorem upO_len {k : Nat} {ps : List Pt} : (upO k ps).length = gN ps.length := by unfold upO grps grI; simp
theorem grp_len {ps : List Pt} {i : Nat} : (grp ps i).length = min (8 * i + 8) ps.length - 8 * i := by unfold grp; rw [List.length_take, List.length_drop]; omega
theorem grp_mem {ps : List Pt} {i : Nat} {p : Pt} (h : p ∈ grp ps i) : p ∈ ps := List.mem_of_mem_drop (List.mem_of_mem_take h)
theorem rsl_cap {sz len cap c' : Nat} {a : Option Addr} {rows : List (List Value)} {z : Hp} (h : len ≤ c') (H : rsl sz a len cap rows z) : rsl sz a len c' rows z := ⟨H.1, h, H.2.2⟩
theorem rsl_grp {a : Option Addr} {n c : Nat} {ps : List Pt} {z : Hp} (i : Nat) (hn : ps.length = n) (hi : 8 * i ≤ n) (H : rsl 33 a n c (ps.map ptC) z) : rsl 33 (cutA a (min (8 * i + 8) n) (8 * i) 33) (min (8 * i + 8) n - 8 * i) (min (8 * i + 8) n - 8 * i) ((grp ps i).map ptC) z := by
  have h1 := rsl_to (h := min (8 * i + 8) n) (by omega) H
  have h2 := rsl_cap (c' := min (8 * i + 8) n) (Nat.le_refl _) h1
  have h3 := rsl_cut (l := 8 * i) (h := min (8 * i + 8) n) (by omega) (Nat.le_refl _) h2
  have e : (((ps.map ptC).take (min (8 * i + 8) n)).drop (8 * i)).take (min (8 * i + 8) n - 8 * i) = (grp ps i).map ptC := by
    unfold grp
    rw [List.drop_take, List.take_take, Nat.min_self, List.map_take, List.map_drop]
    rcases Nat.le_total (8 * i + 8) n with q | q
    · congr 1; omega
    · rw [List.take_of_length_le (by simp; omega), List.take_of_length_le (by simp; omega)]
  rw [e] at h3
  exact h3
theorem obytes_spec {l : List UInt8} (hl : l.length = 32) : Spec Tryz.prog 73 [.agg (l.map Y).toArray] [] [] (fun v D' M' => v = S l ∧ D' = [] ∧ M' = []) := by
 refine zv (n := 5) Tryz.func73 ?_
 intro σ D M
 refine O (y6 R R R (fun b1 => ?_))
 refine V R R (zu (T.toOwn (len := 32) qP (rows := l.map yr) (sz := 1) (yr_flat l) (by simp [hl]) (by simp) ?_))
 refine yQ qP ?_
 refine z8 (O (xB R yf sz5 R xb xb qI qI ?_))
 refine zE (t := 3) (u := .slice (some ⟨b1, 0, none⟩) 32 32) R (by first | rfl | simp [cutA, Addr.add]) ?_
 refine xL R yz zX ye R qM ?_
 exact V R R (I (zo (zy R R ⟨R, R, R⟩ qD qF)))
theorem make_spec {k : Int} {tx : List UInt8} (htx : tx.length ≤ 35184372088832) : Spec Tryz.prog 30 [.int .i64 k, S tx] [] [] (fun v D' M' => v = .agg (obC (k, oI k tx, tx)).toArray ∧ D' = [] ∧ M' = []) := by
 refine zv (n := 12) Tryz.func30 ?_
 intro σ D M
 have h34 := obC_len (k, oI k tx, tx)
 have hi32 := (oI k tx).2
 refine O (zC R ze88 (fun b4 => ?_))
 refine I (O (E R R (E R R (E R R (yl R bs27 jD (zF R R R <| zQ (out := []) R) (fun b8 => ?_))))))
 refine yR (len := 1) qP (rows := [tx].map ys) (sz := 1) (by rfl) R (by simp) ?_
 refine yF qP ?_
 refine zp R (ev2 R R) qD qS (oidof_spec (ls := [tx]) (by simpa using htx) (by simp)) ?_
 rintro _ _ _ ⟨rfl, rfl, rfl⟩
 refine zm qA qA ?_
 refine zE (t := 9) (u := .agg ((oI k tx).1.map Y).toArray) R (by rw [oI_val]; simp only [List.flatten_cons, List.flatten_nil, List.append_nil]) ?_
 refine E R R (yq R bu88 (zF R R R <| yG R R j1 (Nat.le_of_ble_eq_true R) qR <| zF R R R <| zQ (out := []) R) ?_)
 refine zz ag88 R R qL qO qU qW ?_
 exact I (zo (xt R ag88 R qN ⟨R, R, R⟩ qD qF))
theorem ntext_spec {k n c : Nat} {a : Option Addr} {ps : List Pt} (hk : k ≤ 1000000) (hn : n ≤ 1000000) (hp : ∀ p ∈ ps, 0 ≤ p.2 ∧ p.2 ≤ 4611686018427387904) : Spec Tryz.prog 178 [.agg #[.int .i64 (k : Int), .slice a n c]] [rsl 33 a n c (ps.map ptC)] [] (fun v D' M' => v = S (nodeT k ps) ∧ D' = [] ∧ M' = []) := by
 refine zv (n := 32) Tryz.func178 ?_
 intro σ D M
 refine yU (rows := ps.map ptC) qM (fun hpl hpc => ?_)
 rw [List.length_map] at hpl
 have hnl := nodeP_len (k := k) (ps := ps) hk jO (fun p q => by have := hp p q; omega)
 have hk9 := numB_len (n := k) jO
 have hn9 := numB_len (n := n) jO
 refine O (y6 R R R (fun b1 => ?_))
 refine V R R (I (O (zg R fo266_0 R ?_)))
 refine zf R sc3 R qC ?_
 refine zg R fo266_1 R ?_
 refine zf R sc203 R qC ?_
 refine yb R xm R (yl R bs221 jD (zF R R R <| zF R R R <| zQ (out := []) R) (fun b11 => ?_))
 refine yR (len := 2) qP (rows := ([(k : Int), (n : Int)] : List Int).map e3) (sz := 1) (by rfl) R (by simp) ?_
 refine yF qP ?_
 refine zp R (ev1 R) qD qS (bnums_spec (xs := [(k : Int), (n : Int)]) jD (by simp; omega)) ?_
 rintro _ _ _ ⟨rfl, rfl, rfl⟩
 refine zm qA qA ?_
 refine zE (t := 12) (u := S (nodeP k ps 0)) R (congrArg S (by simp [nodeP, hpl])) ?_
 refine V R R (I (ze (O (zg R fo266_1 R ?_))))
 refine zf R sc203 R qC ?_
 refine yb R xm R (E R R (I (zD (y8 (fun K' D' M' μ => ∃ (i : Nat), (i ≤ n) ∧ K' = [(16, .int .i64 (i : Int)), (3, S (nodeP k ps i))] ∧ D' = [] ∧ M' = [] ∧ μ = n - i) (.c 14 R <| .c 15 R <| zd _) (⟨0, Nat.zero_le _, R, R, R, R⟩) (.c 16 R <| .c 3 R <| zd _) qD qS ?_))))
 rintro K1 D1 M1 m1 ⟨i, hi, rfl, rfl, rfl, rfl⟩
 refine zM qA qA qA ?_
 refine O (zW R R R (I (ze (zA R (fun h17 => ?_) (fun h17 => ?_)))))
 ·try simp only [dq] at h17
  refine zq (z8 (ze (zD (ze ?_))))
  have hgi : ps[i]? = some (gd ps i) := y9 jO
  obtain ⟨p, hp_⟩ : ∃ x, x = gd ps i := ⟨_, rfl⟩
  rw [← hp_] at hgi
  have hgr : (ps.map ptC)[i]? = some (ptC p) := yJ hgi
  have hp33 := ptC_len p
  have hp32 := p.1.2
  have hpm := List.mem_of_getElem? hgi
  have hpb := hp p hpm
  refine zt (yP (i := i) R xm sz73 R R qM jR qG (fun b18 o18 => ?_))
  refine zx R ag73 R (xl qM (ptC_len _)) ?_
  refine zC R ze73 (fun b5 => ?_)
  refine zz ag73 R R qL qO qU qW ?_
  refine I (zO (A := cl b5 73 (ptC p)) qP ?_)
  have hni := hnl i
  refine y7 (clsL [1, 1, 1, 2, 1, 1, 2, 2, 1, 1, 1]) qk ?_
  refine z9 0 R R (E R R (z7 (z9 1 R R (zg R fo73_0 R ?_))))
  refine z7 (z9 2 R R (zx R zI R qN ?_))
  refine z7 (z9 4 R R (zg R fo73_1 R ?_))
  refine z7 (z9 5 R R (zf R sc3 R qC ?_))
  refine z7 (yA (is := [3, 6]) qk jD (zU R ?_ <| zU R ?_ <| yB) )
  ·refine zH R (ev1 R) qD qS (obytes_spec (l := p.1.1) hp32) jF ?_
   refine zh R qD ?_
   refine zi 6 R (yl R bs221 jD (zF R R R <| zQ (out := []) R) (fun b26 => ?_))
   refine yR (len := 1) qP (rows := ([p.2] : List Int).map e3) (sz := 1) (by rfl) R (by simp) ?_
   refine yF qP ?_
   refine zh R qD ?_
   refine zi 7 R (zp R (ev1 R) qD qS (bnums_spec (xs := [p.2]) jD (by simp; omega)) ?_)
   rintro _ _ _ ⟨rfl, rfl, rfl⟩
   refine zm qA qA ?_
   refine zE (t := 27) (u := S (numB p.2.toNat)) R (congrArg S (by simp)) ?_
   have hp9 := numB_len (n := p.2.toNat) jO
   refine zh R qD ?_
   refine z9 8 R R (L.addS R R R qI ?_)
   refine z7 (z9 9 R R (L.addS R R R qI ?_))
   refine zE (t := 29) (u := S (nodeP k ps (i + 1))) R (congrArg S (by rw [nodeP_s hgi]; rfl)) ?_
   refine z7 (z9 10 R R (V R R (z7 (zN qk ?_))))
   refine zS (z8 (zt (zT R R R jO ?_)))
   exact E R R (I (zV ⟨i + 1, jO, R, R, R, R⟩ qI (.c 16 R <| .c 3 R <| zd _) (.c 14 R <| .c 15 R <| zd _) qD qD qF))
  refine yl R bs221 jD (zF R R R <| zQ (out := []) R) (fun b26 => ?_)
  refine yR (len := 1) qP (rows := ([p.2] : List Int).map e3) (sz := 1) (by rfl) R (by simp) ?_
  refine yF qP ?_
  refine zh R qD ?_
  refine zi 3 R (zH R (ev1 R) qD qS (obytes_spec (l := p.1.1) hp32) jF ?_)
  refine zh R qD ?_
  refine zi 7 R (zp R (ev1 R) qD qS (bnums_spec (xs := [p.2]) jD (by simp; omega)) ?_)
  rintro _ _ _ ⟨rfl, rfl, rfl⟩
  refine zm qA qA ?_
  refine zE (t := 27) (u := S (numB p.2.toNat)) R (congrArg S (by simp)) ?_
  have hp9 := numB_len (n := p.2.toNat) jO
  refine zh R qD ?_
  refine z9 8 R R (L.addS R R R qI ?_)
  refine z7 (z9 9 R R (L.addS R R R qI ?_))
  refine zE (t := 29) (u := S (nodeP k ps (i + 1))) R (congrArg S (by rw [nodeP_s hgi]; rfl)) ?_
  refine z7 (z9 10 R R (V R R (z7 (zN qk ?_))))
  refine zS (z8 (zt (zT R R R jO ?_)))
  exact E R R (I (zV ⟨i + 1, jO, R, R, R, R⟩ qI (.c 16 R <| .c 3 R <| zd _) (.c 14 R <| .c 15 R <| zd _) qD qD qF))
 try simp only [dq] at h17
 obtain rfl : i = n := by omega
 exact y4 (zG (zG (y5 (z8 (O (E R R (V R R (I (zo (zy R R ⟨by unfold nodeT; rw [hpl], R, R⟩ qD qF))))))))))
theorem nsize_spec {k n c : Nat} {a : Option Addr} {ps : List Pt} (hn : n ≤ 1000000) (hp : ∀ p ∈ ps, 0 ≤ p.2 ∧ p.2 ≤ 1000000000) : Spec Tryz.prog 179 [.agg #[.int .i64 (k : Int), .slice a n c]] [rsl 33 a n c (ps.map ptC)] [] (fun v D' M' => v = .int .i64 (sizeP ps) ∧ D' = [] ∧ M' = []) := by
 refine zv (n := 19) Tryz.func179 ?_
 intro σ D M
 refine yU (rows := ps.map ptC) qM (fun hpl hpc => ?_)
 rw [List.length_map] at hpl
 have hsz := sizeI_in hp
 refine O (y6 R R R (fun b1 => ?_))
 refine V R R (I (O (V R R (I (ze (O (zg R fo266_1 R ?_)))))))
 refine zf R sc203 R qC ?_
 refine yb R xm R (E R R (I (zD (y8 (fun K' D' M' μ => ∃ (i : Nat), (i ≤ n) ∧ K' = [(9, .int .i64 (i : Int)), (3, .int .i64 (sizeI ps i))] ∧ D' = [] ∧ M' = [] ∧ μ = n - i) (.c 7 R <| .c 8 R <| zd _) (⟨0, Nat.zero_le _, R, R, R, R⟩) (.c 9 R <| .c 3 R <| zd _) qD qS ?_))))
 rintro K1 D1 M1 m1 ⟨i, hi, rfl, rfl, rfl, rfl⟩
 refine zM qA qA qA ?_
 refine O (zW R R R (I (ze (zA R (fun h10 => ?_) (fun h10 => ?_)))))
 ·try simp only [dq] at h10
  refine zq (z8 (ze (zD (ze ?_))))
  have hgi : ps[i]? = some (gd ps i) := y9 jO
  obtain ⟨p, hp_⟩ : ∃ x, x = gd ps i := ⟨_, rfl⟩
  rw [← hp_] at hgi
  have hgr : (ps.map ptC)[i]? = some (ptC p) := yJ hgi
  have hp33 := ptC_len p
  have hp32 := p.1.2
  have hpm := List.mem_of_getElem? hgi
  have hpb := hp p hpm
  refine zt (yP (i := i) R xm sz73 R R qM jR qG (fun b11 o11 => ?_))
  refine zx R ag73 R (xl qM (ptC_len _)) ?_
  refine zC R ze73 (fun b5 => ?_)
  refine zz ag73 R R qL qO qU qW ?_
  refine zu (z8 ?_)
  have hsi := hsz i jO
  have hss := hsz (i + 1) jO
  rw [sizeI_s hgi] at hss
  refine zt (E R R (zg R fo73_1 R ?_))
  refine zf R sc3 R qC ?_
  refine zT R R R jO ?_
  refine zE (t := 16) (u := .int .i64 (sizeI ps (i + 1))) R (congrArg (Value.int .i64) (sizeI_s hgi).symm) ?_
  refine V R R (zu (zS (z8 (zt (zT R R R jO ?_)))))
  exact E R R (I (zV ⟨i + 1, jO, R, R, R, R⟩ qI (.c 9 R <| .c 3 R <| zd _) (.c 7 R <| .c 8 R <| zd _) qD qD qF))
 try simp only [dq] at h10
 obtain rfl : i = n := by omega
 exact y4 (zG (zG (y5 (z8 (O (E R R (V R R (I (zo (zy R R ⟨by unfold sizeP; rw [hpl], R, R⟩ qD qF))))))))))
theorem chunkit_spec {c1 c2 n c l : Nat} {a : Option Addr} {ps : List Pt} {ψ : Asn} {J : List Nat → Asn} (hY : ∀ (pre : List Nat) (i : Nat), (i = pre.length ∧ 8 * i < n) → YSpec Tryz.prog l ((fun i : Nat => [.slice (cutA a (min (8 * i + 8) n) (8 * i) 33) (min (8 * i + 8) n - 8 * i) (min (8 * i + 8) n - 8 * i)]) i) [ψ] [J pre] (fun v D' M' => v = .bool true ∧ D' = [] ∧ M' = [J (pre ++ [i])])) (hn : n ≤ 1000000) : Spec Tryz.prog 215 [fnY l, .pointer (some ⟨c1, 0, none⟩), .pointer (some ⟨c2, 0, none⟩)] [dall [cl c1 203 [.slice a n c], cl c2 3 [.int .i64 8], rsl 33 a n c (ps.map ptC)], ψ] [all [], J []] (fun v D' M' => v = .tuple #[] ∧ D' = [] ∧ M' = [all [], J (List.range (gN n))]) := by
 refine zv (n := 31) Tryz.func215 ?_
 intro σ D M
 refine T.unpackD (X := [cl c1 203 [.slice a n c], cl c2 3 [.int .i64 8], rsl 33 a n c (ps.map ptC)]) qM ?_
 refine T.norm (Y := []) qA AppL.nil ?_
 refine yU (rows := ps.map ptC) qM (fun hpl hpc => ?_)
 rw [List.length_map] at hpl
 refine y3 qP (show J [] = J (List.range 0) from R) ?_
 
 refine O (V R R (I (zD (y8 (fun K' D' M' μ => ∃ (i : Nat), (i ≤ gN n) ∧ K' = [(4, .int .i64 ((8 * i : Nat) : Int))] ∧ D' = [] ∧ M' = [J (List.range i)] ∧ μ = gN n - i) (.c 0 R <| .c 1 R <| .c 2 R <| zd _) (⟨0, Nat.zero_le _, R, R, R, R⟩) (.c 4 R <| zd _) qD qS ?_))))
 rintro K1 D1 M1 m1 ⟨i, hi, rfl, rfl, rfl, rfl⟩
 refine zM qA qA qA ?_
 have hgn : gN n = (n + 7) / 8 := rfl
 refine ze (O (E R R (zf R sc203 R qC ?_)))
 refine yb R xm R (zW R R R (I (zA R (fun h9 => ?_) (fun h9 => ?_))))
 ·try simp only [dq] at h9
  refine zq (z8 (ze (zD (ze (xg qk qk (zf R sc3 R qC ?_))))))
  refine zf R sc203 R qC ?_
  refine E R R (L.sliceSl R xm sz73 R (Bd.at (x := 8 * i) R jR) xb qI qI ?_)
  refine yb R xm R (L.minI R R R ?_)
  refine zE (t := 18) (u := .int .i64 ((min (8 * i + 8) n - 8 * i : Nat) : Int)) R (congrArg (Value.int .i64) jO) ?_
  refine V R R (yY (z8 (O (E R R (zf R sc203 R qC ?_)))))
  refine E R R (E R R (E R R (zT R R R jO ?_)))
  refine zE (t := 24) (u := .int .i64 ((min (8 * i + 8) n : Nat) : Int)) R (congrArg (Value.int .i64) jO) ?_
  refine E R R (E R R (zT R R R jO ?_))
  refine zE (t := 27) (u := .int .i64 ((min (8 * i + 8) n : Nat) : Int)) R (congrArg (Value.int .i64) jO) ?_
  refine L.sliceMax (h := min (8 * i + 8) n) R xm sz73 R (Bd.at (x := 8 * i) R jR) ⟨_, _, _, R, R, (by first | rfl | omega)⟩ R qI qI qI ?_
  refine L.callY (M0 := [J (List.range i)]) R R R (evs.cons R xu) qD qS (hY (List.range i) i ⟨by simp, by omega⟩) ?_
  rintro _ _ _ ⟨rfl, rfl, rfl⟩
  refine zm qA qA ?_
  refine x7 R R (I (zR R R ?_))
  refine zq (zS (z8 (zt (E R R (zf R sc3 R qC ?_)))))
  refine zT R R R jO ?_
  refine zE (t := 12) (u := .int .i64 ((8 * (i + 1) : Nat) : Int)) R (congrArg (Value.int .i64) jO) ?_
  refine V R R (I (y3 qP (show J (List.range i ++ [i]) = J (List.range (i + 1)) from by rw [List.range_succ]) ?_))
  exact zV ⟨i + 1, jO, R, R, R, R⟩ qI (.c 4 R <| zd _) (.c 0 R <| .c 1 R <| .c 2 R <| zd _) qD qD qF
 try simp only [dq] at h9
 obtain rfl : i = gN n := by omega
 exact y4 (zG (zG (y5 (yS (by simp) R ⟨R, R, R⟩ qD qF))))
theorem chunk_iter {c1 c2 n c : Nat} {a : Option Addr} {ps : List Pt} (hn : n ≤ 1000000) : Iter Tryz.prog 215 [.pointer (some ⟨c1, 0, none⟩), .pointer (some ⟨c2, 0, none⟩)] (fun i : Nat => [.slice (cutA a (min (8 * i + 8) n) (8 * i) 33) (min (8 * i + 8) n - 8 * i) (min (8 * i + 8) n - 8 * i)]) (fun pre i => i = pre.length ∧ 8 * i < n) (dall [cl c1 203 [.slice a n c], cl c2 3 [.int .i64 8], rsl 33 a n c (ps.map ptC)]) (all []) (all []) (fun xs => xs = List.range (gN n)) :=
 ⟨fun l ψ J hY => (chunkit_spec hY hn).imp (fun v D' M' ⟨_, h3, h4⟩ => ⟨_, rfl, h3, h4⟩)⟩
theorem chunk_spec {n c : Nat} {a : Option Addr} {ps : List Pt}  : Spec Tryz.prog 177 [.slice a n c, .int .i64 8] [rsl 33 a n c (ps.map ptC)] [] (fun v D' M' => ∃ (c1 c2 : Nat), v = fnV 215 [.pointer (some ⟨c1, 0, none⟩), .pointer (some ⟨c2, 0, none⟩)] ∧ D' = [dall [cl c1 203 [.slice a n c], cl c2 3 [.int .i64 8], rsl 33 a n c (ps.map ptC)]] ∧ M' = []) := by
 refine zv (n := 9) Tryz.func177 ?_
 intro σ D M
 refine O (y6 R R R (fun b2 => ?_))
 refine y6 R R R (fun b3 => ?_)
 refine V R R (zu (zO (A := cl b2 203 [.slice a n c]) qP ?_))
 refine zO (A := cl b3 3 [.int .i64 8]) qP ?_
 refine z8 (ze (O (zf R sc3 R qC ?_)))
 refine zW R R R (I (zR R R ?_))
 refine zq (z8 (O (xP R (ev2 R R) ?_)))
 refine V R R (zu (T.packD (X := [cl b2 203 [.slice a n c], cl b3 3 [.int .i64 8], rsl 33 a n c (ps.map ptC)]) qD ?_))
 exact z8 (zo (zy R R ⟨b2, b3, R, R, R⟩ qD qF))
theorem level_spec {k n c : Nat} {a : Option Addr} {ps : List Pt} (hk : k ≤ 1000000) (hn : n ≤ 1000000) (hp : ∀ p ∈ ps, 0 ≤ p.2 ∧ p.2 ≤ 1000000000) : Spec Tryz.prog 119 [.int .i64 (k : Int), .slice a n c] [rsl 33 a n c (ps.map ptC)] [] (fun v D' M' => ∃ (a1 a2 : Option Addr) (n1 c1 n2 c2 : Nat), v = .tuple #[.slice a1 n1 c1, .slice a2 n2 c2] ∧ (gN n = n1) ∧ (gN n = n2) ∧ D' = [] ∧ M' = [own 33 73 a1 n1 c1 ((upP k ps).map ptC), own 34 88 a2 n2 c2 ((upO k ps).map obC)]) := by
 refine zv (n := 34) Tryz.func119 ?_
 intro σ D M
 refine yU (rows := ps.map ptC) qM (fun hpl hpc => ?_)
 rw [List.length_map] at hpl
 
 refine O (y6 R R R (fun b2 => ?_))
 refine V R R (V R R (zu (zO (A := cl b2 3 [.int .i64 (k : Int)]) qP ?_)))
 refine z8 (O (zC R ze203 (fun b6 => ?_)))
 refine I (O (zC R ze76 (fun b7 => ?_)))
 refine I (ze (O (E R R (zp R (ev2 R R) qD qS (chunk_spec (ps := ps)) ?_))))
 rintro _ _ _ ⟨c1, c2, rfl, rfl, rfl⟩
 refine zm qA qA ?_
 refine zu (yM (sz := 33) (e := 73) ?_)
 refine y3 qP (show own 33 73 none 0 0 [] = own 33 73 none 0 0 (((grI ps 0).map (upt k)).map ptC) from R) ?_
 refine yM (sz := 34) (e := 88) ?_
 refine y3 qP (show own 34 88 none 0 0 [] = own 34 88 none 0 0 (((grI ps 0).map (uob k)).map obC) from R) ?_
 refine T.emp ?_
 refine z8 (zD (T.mkJ (J := (fun (pre : List (Nat)) => exs fun (a6 : Option Addr) => exs fun (a7 : Option Addr) => exs fun (c6 : Nat) => exs fun (c7 : Nat) => exs fun (n6 : Nat) => pur (pre.length = n6 ∧ n6 ≤ gN n) (all [cl b6 203 [.slice a6 n6 c6], cl b7 76 [.slice a7 n6 c7], own 33 73 a6 n6 c6 (((grI ps n6).map (upt k)).map ptC), own 34 88 a7 n6 c7 (((grI ps n6).map (uob k)).map obC)]) : List (Nat) → Asn) []) (L := (fun (pre : List (Nat)) (a6 : Option Addr) (a7 : Option Addr) (c6 : Nat) (c7 : Nat) (n6 : Nat) => ([cl b6 203 [.slice a6 n6 c6], cl b7 76 [.slice a7 n6 c7], own 33 73 a6 n6 c6 (((grI ps n6).map (upt k)).map ptC), own 34 88 a7 n6 c7 (((grI ps n6).map (uob k)).map obC)] : List Asn)) [] (none) (none) (0) (0) (0)) qS (yO (none) (yO (none) (yO (0) (yO (0) (yO (0) (pur.in ⟨R, Nat.zero_le _⟩ (Ent.refl _))))))) ?_))
 refine T.rangeFunc (encs := fun i : Nat => [.slice (cutA a (min (8 * i + 8) n) (8 * i) 33) (min (8 * i + 8) n - 8 * i) (min (8 * i + 8) n - 8 * i)]) (chunk_iter (c1 := c1) (c2 := c2) (ps := ps) hn) R qk (fun _ => rfl) jD (fun i => [(13, .slice (cutA a (min (8 * i + 8) n) (8 * i) 33) (min (8 * i + 8) n - 8 * i) (min (8 * i + 8) n - 8 * i))]) (fun _ => rfl) [rsl 33 a n c (ps.map ptC), cl b2 3 [.int .i64 (k : Int)]] (fun (pre : List (Nat)) => exs fun (a6 : Option Addr) => exs fun (a7 : Option Addr) => exs fun (c6 : Nat) => exs fun (c7 : Nat) => exs fun (n6 : Nat) => pur (pre.length = n6 ∧ n6 ≤ gN n) (all [cl b6 203 [.slice a6 n6 c6], cl b7 76 [.slice a7 n6 c7], own 33 73 a6 n6 c6 (((grI ps n6).map (upt k)).map ptC), own 34 88 a7 n6 c7 (((grI ps n6).map (uob k)).map obC)]) : List (Nat) → Asn) (.c 2 R <| .c 6 R <| .c 7 R <| zd _) qD qD qS ?_ ?_
 ·intro σ1 l1 r1 pre x D1 M1 hok hr1
  refine T.norm2 qA qA ?_
  refine xk qP (fun a6 => ?_)
  refine xk qP (fun a7 => ?_)
  refine xk qP (fun c6 => ?_)
  refine xk qP (fun c7 => ?_)
  refine xk qP (fun n6 => ?_)
  refine T.pur qP (fun hJ => ?_)
  refine T.unfold _ qP R qA ?_
  obtain ⟨hxp, hx8⟩ := hok
  obtain ⟨hJ, hJ2⟩ := hJ
  have hgn : gN n = (n + 7) / 8 := rfl
  refine T.derive (φ := rsl 33 a n c (ps.map ptC)) (ψ := rsl 33 (cutA a (min (8 * x + 8) n) (8 * x) 33) (min (8 * x + 8) n - 8 * x) (min (8 * x + 8) n - 8 * x) ((grp ps x).map ptC)) qM (fun z H => rsl_grp x hpl jO H) ?_
  have hgl := @grp_len ps x
  have hnl : (nodeT k (grp ps x)).length ≤ 18 + 41 * (grp ps x).length := nodeP_len hk jO (fun p q => by have := hp p (grp_mem q); omega) _
  have ho34 := obC_len (2, oI 2 (nodeT k (grp ps x)), nodeT k (grp ps x))
  have ho32 := (oI 2 (nodeT k (grp ps x))).2
  refine zt (V R R (I (T.begin hr1.1 qP ?_)))
  refine zD (O (zf R sc3 R qC ?_))
  refine E R R (yq R bu266 (zF R R R <| zF R R R <| zQ (out := []) R) ?_)
  refine zC R ze266 (fun b9 => ?_)
  refine zz ag266 R R qL qO qU qW ?_
  refine I (O (zx R ag266 R qN ?_))
  refine zH R (ev1 R) qD qS (ntext_spec (k := k) (ps := (grp ps x)) hk jO (fun p q => by have := hp p (grp_mem q); omega)) jF ?_
  refine zH R (ev2 R R) qD qS (make_spec (k := 2) (tx := nodeT k (grp ps x)) jO) jF ?_
  refine zC R ze88 (fun b10 => ?_)
  refine zz ag88 R R qL qO qU qW ?_
  refine zu (zO (A := cl b10 88 (obC (2, oI 2 (nodeT k (grp ps x)), nodeT k (grp ps x)))) qP ?_)
  refine zO (A := cl b9 266 [.int .i64 (k : Int), .slice (cutA a (min (8 * x + 8) n) (8 * x) 33) (min (8 * x + 8) n - 8 * x) (min (8 * x + 8) n - 8 * x)]) qP ?_
  refine z8 (ze (y7 (clsL [2, 1, 1, 1, 2, 1, 2, 2, 2]) qk ?_))
  refine z9 1 R R (zg R fo88_1 R ?_)
  refine z7 (z9 2 R R (zx R zI R qN ?_))
  refine z7 (z9 3 R R (zx R ag266 R qN ?_))
  refine z7 (yA (is := [0, 4]) qk jD (zU R ?_ <| zU R ?_ <| yB) )
  ·refine zf R sc203 R qC ?_
   refine zh R qD ?_
   refine zi 4 R (zH R (ev1 R) qD qS (nsize_spec (k := k) (ps := (grp ps x)) jO (fun p q => hp p (grp_mem q))) jF ?_)
   refine zh R qD ?_
   refine z9 5 R R (yq R bu73 (yG R R j1 (Nat.le_of_ble_eq_true R) qR <| zF R R R <| zQ (out := []) R) ?_)
   refine zE (t := 25) (u := .agg (ptC (upt k (grp ps x))).toArray) R (by first | rfl | simp) ?_
   have hu33 := ptC_len (upt k (grp ps x))
   refine z7 (zi 6 R (yl R bs203 jD (yG R R j1 (Nat.le_of_ble_eq_true R) qR <| zQ (out := []) R) (fun b26 => ?_)))
   refine zh R qD ?_
   refine zi 7 R (x6 R xm el73 R R qP qM (by rw [List.append_nil]; exact ptC_len (upt k (grp ps x))) (fun u hu => by rw [List.append_nil] at hu; exact one_pt (p := upt k (grp ps x)) u hu) qI qI (fun a27 c27 => ?_))
   refine zh R qD ?_
   refine zi 8 R (yj sc203 R R R qU qE ?_)
   refine zh R qD ?_
   refine zN qk ?_
   refine z8 (zt (zf R sc76 R qC ?_))
   refine zx R ag88 R qN ?_
   refine yl R bs76 jD (yG R R j1 (Nat.le_of_ble_eq_true R) qR <| zQ (out := []) R) (fun b30 => ?_)
   refine x6 R xF el88 R R qP qM (by rw [List.append_nil]; exact obC_len (uob k (grp ps x))) (fun u hu => by rw [List.append_nil] at hu; exact one_ob (o := uob k (grp ps x)) u hu) qI qI (fun a31 c31 => ?_)
   refine yj sc76 R R R qU qE ?_
   refine zu (zS (yp (sz := 34) _ (((grI ps (n6 + 1)).map (uob k)).map obC) qP (by rw [grI_s, ← hJ, ← hxp, List.map_append, List.map_append, List.append_nil]; rfl) ?_))
   refine yp (sz := 33) _ (((grI ps (n6 + 1)).map (upt k)).map ptC) qP (by rw [grI_s, ← hJ, ← hxp, List.map_append, List.map_append, List.append_nil]; rfl) ?_
   refine T.mkJ (J := (fun (pre : List (Nat)) => exs fun (a6 : Option Addr) => exs fun (a7 : Option Addr) => exs fun (c6 : Nat) => exs fun (c7 : Nat) => exs fun (n6 : Nat) => pur (pre.length = n6 ∧ n6 ≤ gN n) (all [cl b6 203 [.slice a6 n6 c6], cl b7 76 [.slice a7 n6 c7], own 33 73 a6 n6 c6 (((grI ps n6).map (upt k)).map ptC), own 34 88 a7 n6 c7 (((grI ps n6).map (uob k)).map obC)]) : List (Nat) → Asn) (pre ++ [x])) (L := (fun (pre : List (Nat)) (a6 : Option Addr) (a7 : Option Addr) (c6 : Nat) (c7 : Nat) (n6 : Nat) => ([cl b6 203 [.slice a6 n6 c6], cl b7 76 [.slice a7 n6 c7], own 33 73 a6 n6 c6 (((grI ps n6).map (upt k)).map ptC), own 34 88 a7 n6 c7 (((grI ps n6).map (uob k)).map obC)] : List Asn)) (pre ++ [x]) (_) (_) (_) (_) (n6 + 1)) qS (yO (_) (yO (_) (yO (_) (yO (_) (yO (n6 + 1) (pur.in ⟨by rw [List.length_append]; simp only [List.length_singleton]; omega, by omega⟩ (Ent.refl _))))))) ?_
   exact T.roundEnd hr1 qP qD qF
  refine zH R (ev1 R) qD qS (nsize_spec (k := k) (ps := (grp ps x)) jO (fun p q => hp p (grp_mem q))) jF ?_
  refine zh R qD ?_
  refine z9 5 R R (yq R bu73 (yG R R j1 (Nat.le_of_ble_eq_true R) qR <| zF R R R <| zQ (out := []) R) ?_)
  refine zE (t := 25) (u := .agg (ptC (upt k (grp ps x))).toArray) R (by first | rfl | simp) ?_
  have hu33 := ptC_len (upt k (grp ps x))
  refine z7 (yA (is := [0, 6]) qk jD (zU R ?_ <| zU R ?_ <| yB) )
  ·refine zf R sc203 R qC ?_
   refine zh R qD ?_
   refine zi 6 R (yl R bs203 jD (yG R R j1 (Nat.le_of_ble_eq_true R) qR <| zQ (out := []) R) (fun b26 => ?_))
   refine zh R qD ?_
   refine zi 7 R (x6 R xm el73 R R qP qM (by rw [List.append_nil]; exact ptC_len (upt k (grp ps x))) (fun u hu => by rw [List.append_nil] at hu; exact one_pt (p := upt k (grp ps x)) u hu) qI qI (fun a27 c27 => ?_))
   refine zh R qD ?_
   refine zi 8 R (yj sc203 R R R qU qE ?_)
   refine zh R qD ?_
   refine zN qk ?_
   refine z8 (zt (zf R sc76 R qC ?_))
   refine zx R ag88 R qN ?_
   refine yl R bs76 jD (yG R R j1 (Nat.le_of_ble_eq_true R) qR <| zQ (out := []) R) (fun b30 => ?_)
   refine x6 R xF el88 R R qP qM (by rw [List.append_nil]; exact obC_len (uob k (grp ps x))) (fun u hu => by rw [List.append_nil] at hu; exact one_ob (o := uob k (grp ps x)) u hu) qI qI (fun a31 c31 => ?_)
   refine yj sc76 R R R qU qE ?_
   refine zu (zS (yp (sz := 34) _ (((grI ps (n6 + 1)).map (uob k)).map obC) qP (by rw [grI_s, ← hJ, ← hxp, List.map_append, List.map_append, List.append_nil]; rfl) ?_))
   refine yp (sz := 33) _ (((grI ps (n6 + 1)).map (upt k)).map ptC) qP (by rw [grI_s, ← hJ, ← hxp, List.map_append, List.map_append, List.append_nil]; rfl) ?_
   refine T.mkJ (J := (fun (pre : List (Nat)) => exs fun (a6 : Option Addr) => exs fun (a7 : Option Addr) => exs fun (c6 : Nat) => exs fun (c7 : Nat) => exs fun (n6 : Nat) => pur (pre.length = n6 ∧ n6 ≤ gN n) (all [cl b6 203 [.slice a6 n6 c6], cl b7 76 [.slice a7 n6 c7], own 33 73 a6 n6 c6 (((grI ps n6).map (upt k)).map ptC), own 34 88 a7 n6 c7 (((grI ps n6).map (uob k)).map obC)]) : List (Nat) → Asn) (pre ++ [x])) (L := (fun (pre : List (Nat)) (a6 : Option Addr) (a7 : Option Addr) (c6 : Nat) (c7 : Nat) (n6 : Nat) => ([cl b6 203 [.slice a6 n6 c6], cl b7 76 [.slice a7 n6 c7], own 33 73 a6 n6 c6 (((grI ps n6).map (upt k)).map ptC), own 34 88 a7 n6 c7 (((grI ps n6).map (uob k)).map obC)] : List Asn)) (pre ++ [x]) (_) (_) (_) (_) (n6 + 1)) qS (yO (_) (yO (_) (yO (_) (yO (_) (yO (n6 + 1) (pur.in ⟨by rw [List.length_append]; simp only [List.length_singleton]; omega, by omega⟩ (Ent.refl _))))))) ?_
   exact T.roundEnd hr1 qP qD qF
  refine yl R bs203 jD (yG R R j1 (Nat.le_of_ble_eq_true R) qR <| zQ (out := []) R) (fun b26 => ?_)
  refine zh R qD ?_
  refine zi 0 R (zf R sc203 R qC ?_)
  refine zh R qD ?_
  refine zi 7 R (x6 R xm el73 R R qP qM (by rw [List.append_nil]; exact ptC_len (upt k (grp ps x))) (fun u hu => by rw [List.append_nil] at hu; exact one_pt (p := upt k (grp ps x)) u hu) qI qI (fun a27 c27 => ?_))
  refine zh R qD ?_
  refine zi 8 R (yj sc203 R R R qU qE ?_)
  refine zh R qD ?_
  refine zN qk ?_
  refine z8 (zt (zf R sc76 R qC ?_))
  refine zx R ag88 R qN ?_
  refine yl R bs76 jD (yG R R j1 (Nat.le_of_ble_eq_true R) qR <| zQ (out := []) R) (fun b30 => ?_)
  refine x6 R xF el88 R R qP qM (by rw [List.append_nil]; exact obC_len (uob k (grp ps x))) (fun u hu => by rw [List.append_nil] at hu; exact one_ob (o := uob k (grp ps x)) u hu) qI qI (fun a31 c31 => ?_)
  refine yj sc76 R R R qU qE ?_
  refine zu (zS (yp (sz := 34) _ (((grI ps (n6 + 1)).map (uob k)).map obC) qP (by rw [grI_s, ← hJ, ← hxp, List.map_append, List.map_append, List.append_nil]; rfl) ?_))
  refine yp (sz := 33) _ (((grI ps (n6 + 1)).map (upt k)).map ptC) qP (by rw [grI_s, ← hJ, ← hxp, List.map_append, List.map_append, List.append_nil]; rfl) ?_
  refine T.mkJ (J := (fun (pre : List (Nat)) => exs fun (a6 : Option Addr) => exs fun (a7 : Option Addr) => exs fun (c6 : Nat) => exs fun (c7 : Nat) => exs fun (n6 : Nat) => pur (pre.length = n6 ∧ n6 ≤ gN n) (all [cl b6 203 [.slice a6 n6 c6], cl b7 76 [.slice a7 n6 c7], own 33 73 a6 n6 c6 (((grI ps n6).map (upt k)).map ptC), own 34 88 a7 n6 c7 (((grI ps n6).map (uob k)).map obC)]) : List (Nat) → Asn) (pre ++ [x])) (L := (fun (pre : List (Nat)) (a6 : Option Addr) (a7 : Option Addr) (c6 : Nat) (c7 : Nat) (n6 : Nat) => ([cl b6 203 [.slice a6 n6 c6], cl b7 76 [.slice a7 n6 c7], own 33 73 a6 n6 c6 (((grI ps n6).map (upt k)).map ptC), own 34 88 a7 n6 c7 (((grI ps n6).map (uob k)).map obC)] : List Asn)) (pre ++ [x]) (_) (_) (_) (_) (n6 + 1)) qS (yO (_) (yO (_) (yO (_) (yO (_) (yO (n6 + 1) (pur.in ⟨by rw [List.length_append]; simp only [List.length_singleton]; omega, by omega⟩ (Ent.refl _))))))) ?_
  exact T.roundEnd hr1 qP qD qF
 intro b1 xs hxs
 refine xk qP (fun a6 => ?_)
 refine xk qP (fun a7 => ?_)
 refine xk qP (fun c6 => ?_)
 refine xk qP (fun c7 => ?_)
 refine xk qP (fun n6 => ?_)
 refine T.pur qP (fun hJ => ?_)
 refine T.unfold _ qP R qA ?_
 subst hxs
 obtain ⟨hJ, hJ2⟩ := hJ
 rw [List.length_range] at hJ
 obtain rfl : gN n = n6 := hJ
 refine yp (sz := 33) _ ((upP k ps).map ptC) qP (by unfold upP grps; rw [hpl]) ?_
 refine yp (sz := 34) _ ((upO k ps).map obC) qP (by unfold upO grps; rw [hpl]) ?_
 refine zS (z8 (ze (xg qk qk (zf R sc203 R qC ?_))))
 refine zf R sc76 R qC ?_
 refine V R R (V R R (yY (z8 (zo (T.unmark (.inl R) qP ?_)))))
 exact x8 R R R ⟨_, _, _, _, _, _, R, R, R, R, R⟩ qD qF
end Cv
set_option maxRecDepth 10000
namespace Cv
open Go Go.Proofs
/-! ## merkle.Build: the plain model -/
def zID : ID32 := ⟨List.replicate 32 0, rfl⟩
def zP : Pt := (zID, 0)
def lf (c : List UInt8) : Pt := (oI 1 c, (c.length : Int))
def lo (c : List UInt8) : Ob := (1, oI 1 c, c)
def lvR : Nat → Nat → List Pt → List Ob → List Pt × List Ob
  | 0, _, ps, os => (ps, os)
  | f + 1, k, ps, os => if k = 1 ∨ 1 < ps.length then lvR f (k + 1) (upP k ps) (os ++ upO k ps) else (ps, os)
theorem lvR_s {f k : Nat} {ps : List Pt} {os : List Ob} (h : k = 1 ∨ 1 < ps.length) : lvR (f + 1) k ps os = lvR f (k + 1) (upP k ps) (os ++ upO k ps) := by rw [lvR, if_pos h]
theorem lvR_z {f k : Nat} {ps : List Pt} {os : List Ob} (h : ¬(k = 1 ∨ 1 < ps.length)) : lvR f k ps os = (ps, os) := by
  cases f with
  | zero => rfl
  | succ f => rw [lvR, if_neg h]
def badC (c : List UInt8) : Prop := c = [] ∨ 256 < c.length
instance (c : List UInt8) : Decidable (badC c) := by unfold badC; infer_instance
def bldM (cs : List (List UInt8)) : Pt × List Ob × Int :=
  if ∃ c ∈ cs, badC c then (zP, [], 10)
  else if sizeI (cs.map lf) cs.length = 0 then (zP, [], 10)
  else if 32768 < sizeI (cs.map lf) cs.length then (zP, [], 5)
  else ((lvR (cs.length + 1) 1 (cs.map lf) (cs.map lo)).1.headD zP, (lvR (cs.length + 1) 1 (cs.map lf) (cs.map lo)).2, 0)
theorem bld_bad {cs : List (List UInt8)} {c : List UInt8} {i : Nat} (h : cs[i]? = some c) (hb : badC c) : bldM cs = (zP, [], 10) := by
  unfold bldM; rw [if_pos ⟨c, List.mem_of_getElem? h, hb⟩]
theorem no_bad {cs : List (List UInt8)} (h : ∀ c ∈ cs, ¬ badC c) : ¬ ∃ c ∈ cs, badC c := fun ⟨c, hc, hb⟩ => h c hc hb
theorem bld_0 {cs : List (List UInt8)} (h : ∀ c ∈ cs, ¬ badC c) (h0 : sizeI (cs.map lf) cs.length = 0) : bldM cs = (zP, [], 10) := by
  unfold bldM; rw [if_neg (no_bad h), if_pos h0]
theorem bld_5 {cs : List (List UInt8)} (h : ∀ c ∈ cs, ¬ badC c) (h0 : 32768 < sizeI (cs.map lf) cs.length) : bldM cs = (zP, [], 5) := by
  unfold bldM; rw [if_neg (no_bad h), if_neg (by omega), if_pos h0]
theorem bld_ok {cs : List (List UInt8)} (h : ∀ c ∈ cs, ¬ badC c) (h0 : sizeI (cs.map lf) cs.length ≠ 0) (h1 : sizeI (cs.map lf) cs.length ≤ 32768) {p : Pt} {os : List Ob} (e : lvR (cs.length + 1) 1 (cs.map lf) (cs.map lo) = ([p], os)) : bldM cs = (p, os, 0) := by
  unfold bldM; rw [if_neg (no_bad h), if_neg h0, if_neg (by omega), e]; rfl
theorem good_snoc {cs : List (List UInt8)} {c : List UInt8} {i : Nat} (h : cs[i]? = some c) (hg : ∀ x ∈ cs.take i, ¬ badC x) (hb : ¬ badC c) : ∀ x ∈ cs.take (i + 1), ¬ badC x := fun x hx => by
  rw [List.take_add_one, h] at hx
  rcases List.mem_append.1 hx with hx | hx
  · exact hg x hx
  · have : x = c := by simpa using hx
    rw [this]; exact hb
theorem lf_get {cs : List (List UInt8)} {c : List UInt8} {i : Nat} (h : cs[i]? = some c) : (cs.map lf)[i]? = some (lf c) := by rw [List.getElem?_map, h]; rfl
theorem good_size {cs : List (List UInt8)} (h : ∀ c ∈ cs, ¬ badC c) : ∀ p ∈ cs.map lf, 1 ≤ p.2 ∧ p.2 ≤ 256 := fun p hp => by
  obtain ⟨c, hc, rfl⟩ := List.mem_map.1 hp
  have := h c hc
  simp only [badC, not_or] at this
  have h1 := List.length_pos_iff.2 this.1
  simp only [lf]; omega
theorem size_ge {ps : List Pt} (h : ∀ p ∈ ps, 1 ≤ p.2) : ∀ i, i ≤ ps.length → (i : Int) ≤ sizeI ps i
  | 0, _ => by simp [sizeI]
  | i + 1, hi => by
    have hg : ps[i]? = some (gd ps i) := y9 (by omega)
    have h1 := size_ge h i (by omega)
    have h2 := h _ (List.mem_of_getElem? hg)
    rw [sizeI_s hg]; omega
theorem size_mono {ps : List Pt} (h : ∀ p ∈ ps, 1 ≤ p.2) {i : Nat} : ∀ j, i ≤ j → j ≤ ps.length → sizeI ps i ≤ sizeI ps j
  | 0, hij, _ => by have : i = 0 := by omega
                    subst this; exact Int.le_refl _
  | j + 1, hij, hj => by
    rcases Nat.lt_or_ge j i with hji | hji
    · have : i = j + 1 := by omega
      subst this; exact Int.le_refl _
    · have hg : ps[j]? = some (gd ps j) := y9 (by omega)
      have h2 := h _ (List.mem_of_getElem? hg)
      have := size_mono h j hji (by omega)
      rw [sizeI_s hg]; omega
theorem size_mem {ps : List Pt} (h : ∀ p ∈ ps, 1 ≤ p.2) {p : Pt} (hp : p ∈ ps) : p.2 ≤ sizeP ps := by
  obtain ⟨i, hi, e⟩ := List.mem_iff_getElem.1 hp
  have hg : ps[i]? = some p := by rw [List.getElem?_eq_getElem hi, e]
  have h1 := size_mono h (i := i + 1) ps.length (by omega) (Nat.le_refl _)
  have h2 := size_ge h i (by omega)
  rw [sizeI_s hg] at h1
  unfold sizeP; omega
theorem sizeI_app {l m : List Pt} : sizeP (l ++ m) = sizeP l + sizeP m := by
  unfold sizeP sizeI
  rw [List.take_of_length_le (Nat.le_refl _), List.take_of_length_le (Nat.le_refl _), List.take_of_length_le (Nat.le_refl _), List.foldl_append, foldl_add]
theorem size_take {ps : List Pt} {i : Nat} : sizeP (ps.take i) = sizeI ps i := by
  unfold sizeP sizeI; rw [List.take_of_length_le (Nat.le_refl _)]
theorem size_grI {k : Nat} {ps : List Pt} : ∀ i, sizeP ((grI ps i).map (upt k)) = sizeI ps (8 * i)
  | 0 => rfl
  | i + 1 => by
    rw [grI_s, List.map_append, sizeI_app, size_grI i, ← size_take, ← size_take, show 8 * (i + 1) = 8 * i + 8 by omega, List.take_add, sizeI_app]
    simp only [sizeP, sizeI, List.map_cons, List.map_nil, upt, grp, List.take_of_length_le (Nat.le_refl _), List.foldl_cons, List.foldl_nil, List.length_cons, List.length_nil]
    simp
theorem size_up {k : Nat} {ps : List Pt} : sizeP (upP k ps) = sizeP ps := by
  have h : gN ps.length = (ps.length + 7) / 8 := rfl
  unfold upP grps
  rw [size_grI, sizeP, sizeI, sizeI, List.take_of_length_le (by omega), List.take_of_length_le (Nat.le_refl _)]
theorem up_pos {k : Nat} {ps : List Pt} (h : ∀ p ∈ ps, 1 ≤ p.2) : ∀ p ∈ upP k ps, 1 ≤ p.2 := fun p hp => by
  obtain ⟨g, hg, rfl⟩ := List.mem_map.1 hp
  obtain ⟨i, hi, rfl⟩ := List.mem_map.1 hg
  have h1 : gN ps.length = (ps.length + 7) / 8 := rfl
  have h2 := List.mem_range.1 hi
  have h3 := size_ge (ps := grp ps i) (fun q hq => h q (grp_mem hq)) _ (Nat.le_refl _)
  have h4 := @grp_len ps i
  show 1 ≤ sizeP (grp ps i)
  unfold sizeP; omega
theorem size_good {cs : List (List UInt8)} {i : Nat} (h : ∀ c ∈ cs.take i, ¬ badC c) (hi : i ≤ cs.length) : 0 ≤ sizeI (cs.map lf) i ∧ sizeI (cs.map lf) i ≤ 256 * i := by
  have h1 := sizeI_in (ps := (cs.take i).map lf) (B := 256) (fun p hp => by have := good_size h p hp; omega) i (by rw [List.length_map, List.length_take]; omega)
  have h2 : sizeI ((cs.take i).map lf) i = sizeI (cs.map lf) i := by
    unfold sizeI; rw [← List.map_take, ← List.map_take, List.take_take, Nat.min_self]
  rw [h2] at h1; exact h1

theorem mbuild_spec {n c : Nat} {a : Option Addr} {cs : List (List UInt8)} (hn : n ≤ 1000001) : Spec Tryz.prog 63 [.slice a n c] [rsl 1 a n c (cs.map ys)] [] (fun v D' M' => ∃ (a1 : Option Addr) (n1 c1 : Nat), v = .tuple #[.agg (ptC (bldM cs).1).toArray, .slice a1 n1 c1, .int .i64 (bldM cs).2.2] ∧ ((bldM cs).2.1.length = n1) ∧ D' = [] ∧ M' = [own 34 88 a1 n1 c1 (((bldM cs).2.1).map obC)]) := by
 refine zv (n := 78) Tryz.func63 ?_
 intro σ D M
 refine yU (rows := cs.map ys) qM (fun hpl hpc => ?_)
 rw [List.length_map] at hpl
 
 refine O (zC R ze73 (fun b2 => ?_))
 refine V R R (V R R (zu (y3 (A := cl b2 73 (j8 :: j8 :: j8 :: j8 :: j8 :: j8 :: j8 :: j8 :: j8 :: j8 :: j8 :: j8 :: j8 :: j8 :: j8 :: j8 :: j8 :: j8 :: j8 :: j8 :: j8 :: j8 :: j8 :: j8 :: j8 :: j8 :: j8 :: j8 :: j8 :: j8 :: j8 :: j8 :: .int .i64 0 :: [])) (B := cl b2 73 (ptC zP)) qP R ?_)))
 refine z8 (O (V R R (zu (yM (sz := 34) (e := 88) ?_))))
 refine y3 qP (show own 34 88 none 0 0 [] = own 34 88 none 0 0 (((cs.take 0).map lo).map obC) from R) ?_
 refine z8 (O (V R R (zu (yM (sz := 33) (e := 73) ?_))))
 refine y3 qP (show own 33 73 none 0 0 [] = own 33 73 none 0 0 (((cs.take 0).map lf).map ptC) from R) ?_
 refine z8 (O (V R R (I (ze (O (E R R (yb R xp R (E R R (I (zD (y8 (fun K' D' M' μ => ∃ (i c5 c6 : Nat) (a5 a6 : Option Addr), (i ≤ n ∧ ∀ x ∈ cs.take i, ¬ badC x) ∧ K' = [(16, .int .i64 (i : Int)), (5, .slice a5 i c5), (6, .slice a6 i c6), (7, .int .i64 (sizeI (cs.map lf) i))] ∧ D' = [] ∧ M' = [cl b2 73 (ptC zP), own 34 88 a5 i c5 (((cs.take i).map lo).map obC), own 33 73 a6 i c6 (((cs.take i).map lf).map ptC)] ∧ μ = n - i) (.c 2 R <| .c 14 R <| .c 15 R <| zd _) (⟨0, 0, 0, none, none, ⟨Nat.zero_le _, by simp⟩, R, R, R, R⟩) (.c 16 R <| .c 5 R <| .c 6 R <| .c 7 R <| zd _) qD qS ?_)))))))))))
 rintro K1 D1 M1 m1 ⟨i, c5, c6, a5, a6, ⟨hi, hgd⟩, rfl, rfl, rfl, rfl⟩
 refine zM qA qA qA ?_
 refine O (zW R R R (I (ze (zA R (fun h17 => ?_) (fun h17 => ?_)))))
 ·try simp only [dq] at h17
  refine zq (z8 (ze (zD (ze ?_))))
  have hgi : cs[i]? = some (gd cs i) := y9 jO
  obtain ⟨x, hx_⟩ : ∃ x, x = gd cs i := ⟨_, rfl⟩
  rw [← hx_] at hgi
  have hgr : (cs.map ys)[i]? = some (ys x) := yJ hgi
  refine zt (yP (i := i) R xp sz9 R R qM jR qG (fun b18 o18 => ?_))
  refine zf R sc9 R qC ?_
  refine V R R (I (ze (O (E R R (L.eqS R R R ?_)))))
  refine E R R (yT (t := 22) R (fun h1 => ?_) (fun h1 => ?_))
  ·try simp only [dq] at h1
   refine zw 22 true R R R R R jD (zw 22 true R R R R R jD (zw 22 true R R R R R jD (ym R R R (I (yV R R ?_)))))
   refine O (yq R bu73 (zQ (out := (j8 :: j8 :: j8 :: j8 :: j8 :: j8 :: j8 :: j8 :: j8 :: j8 :: j8 :: j8 :: j8 :: j8 :: j8 :: j8 :: j8 :: j8 :: j8 :: j8 :: j8 :: j8 :: j8 :: j8 :: j8 :: j8 :: j8 :: j8 :: j8 :: j8 :: j8 :: j8 :: .int .i64 0 :: [])) R) ?_)
   refine zz ag73 R R qL qO qU qW ?_
   refine V R R (V R R (zu (y3 (A := cl b2 73 (j8 :: j8 :: j8 :: j8 :: j8 :: j8 :: j8 :: j8 :: j8 :: j8 :: j8 :: j8 :: j8 :: j8 :: j8 :: j8 :: j8 :: j8 :: j8 :: j8 :: j8 :: j8 :: j8 :: j8 :: j8 :: j8 :: j8 :: j8 :: j8 :: j8 :: j8 :: j8 :: .int .i64 0 :: [])) (B := cl b2 73 (ptC zP)) qP R ?_)))
   refine yM (sz := 34) (e := 88) ?_
   refine y3 qP (show own 34 88 none 0 0 [] = own 34 88 none 0 0 ((([] : List Ob)).map obC) from R) ?_
   refine z8 (zo (zL (yv (zL (zL (yv (zL ?_)))))))
   rw [bld_bad hgi (Or.inl h1)]
   exact T.retATT R ag73 R qN R R ⟨_, _, _, R, R, R, R⟩ qD qF
  try simp only [dq] at h1
  refine zj 22 R R R (E R R (zj 22 R R R (yL R ye R (zj 22 R R R (yy R R R (yg R R R (I (zA R (fun h26 => ?_) (fun h26 => ?_)))))))))
  ·try simp only [dq] at h26
   refine O (yq R bu73 (zQ (out := (j8 :: j8 :: j8 :: j8 :: j8 :: j8 :: j8 :: j8 :: j8 :: j8 :: j8 :: j8 :: j8 :: j8 :: j8 :: j8 :: j8 :: j8 :: j8 :: j8 :: j8 :: j8 :: j8 :: j8 :: j8 :: j8 :: j8 :: j8 :: j8 :: j8 :: j8 :: j8 :: .int .i64 0 :: [])) R) ?_)
   refine zz ag73 R R qL qO qU qW ?_
   refine V R R (V R R (zu (y3 (A := cl b2 73 (j8 :: j8 :: j8 :: j8 :: j8 :: j8 :: j8 :: j8 :: j8 :: j8 :: j8 :: j8 :: j8 :: j8 :: j8 :: j8 :: j8 :: j8 :: j8 :: j8 :: j8 :: j8 :: j8 :: j8 :: j8 :: j8 :: j8 :: j8 :: j8 :: j8 :: j8 :: j8 :: .int .i64 0 :: [])) (B := cl b2 73 (ptC zP)) qP R ?_)))
   refine yM (sz := 34) (e := 88) ?_
   refine y3 qP (show own 34 88 none 0 0 [] = own 34 88 none 0 0 ((([] : List Ob)).map obC) from R) ?_
   refine z8 (zo (zL (yv (zL (zL (yv (zL ?_)))))))
   rw [bld_bad hgi (Or.inr jO)]
   exact T.retATT R ag73 R qN R R ⟨_, _, _, R, R, R, R⟩ qD qF
  try simp only [dq] at h26
  refine zq (z8 (ze ?_))
  have hob := obC_len (1, oI 1 x, x)
  have ho32 := (oI 1 x).2
  have hlf := ptC_len (lf x)
  refine zt (E R R (zH R (ev2 R R) qD qS (make_spec (k := 1) (tx := x) jO) jF ?_))
  refine zC R ze88 (fun b10 => ?_)
  refine zz ag88 R R qL qO qU qW ?_
  refine zu (zO (A := cl b10 88 (obC (1, oI 1 x, x))) qP ?_)
  refine z8 (O (E R R (zx R ag88 R qN ?_)))
  refine yl R bs76 jD (yG R R j1 (Nat.le_of_ble_eq_true R) qR <| zQ (out := []) R) (fun b32 => ?_)
  refine x6 R xF el88 R R qP qM (by rw [List.append_nil]; exact hob) (fun u hu => by rw [List.append_nil] at hu; exact one_ob (o := (1, oI 1 x, x)) u hu) qI qI (fun a33 c33 => ?_)
  refine V R R (I (O (E R R (zg R fo88_1 R ?_))))
  refine zx R zI R qN ?_
  refine E R R (yL R ye R (yq R bu73 (yG R R j1 (Nat.le_of_ble_eq_true R) qR <| zF R R R <| zQ (out := []) R) ?_))
  refine zE (t := 39) (u := .agg (ptC (lf x)).toArray) R (by first | rfl | simp) ?_
  refine yl R bs203 jD (yG R R j1 (Nat.le_of_ble_eq_true R) qR <| zQ (out := []) R) (fun b40 => ?_)
  refine x6 R xm el73 R R qP qM (by rw [List.append_nil]; exact hlf) (fun u hu => by rw [List.append_nil] at hu; exact one_pt (p := lf x) u hu) qI qI (fun a41 c41 => ?_)
  refine V R R (zu (z8 ?_))
  have hsz := sizeI_s (lf_get hgi)
  rw [show (lf x).2 = (x.length : Int) from rfl] at hsz
  have hsg := size_good hgd jO
  refine zt (E R R (E R R (yL R ye R (zT R R R jO ?_))))
  refine zE (t := 45) (u := .int .i64 (sizeI (cs.map lf) (i + 1))) R (congrArg (Value.int .i64) hsz.symm) ?_
  refine V R R (zu (zS (z8 (zt (zT R R R jO ?_)))))
  refine E R R (I (yp (sz := 34) _ ((cs.take (i + 1)).map lo |>.map obC) qP (by rw [List.take_add_one, hgi]; simp [lo]) ?_))
  refine yp (sz := 33) _ ((cs.take (i + 1)).map lf |>.map ptC) qP (by rw [List.take_add_one, hgi]; simp [lf]) ?_
  exact zV ⟨i + 1, _, _, _, _, ⟨by omega, good_snoc hgi hgd (by simp only [badC, not_or]; exact ⟨h1, by omega⟩)⟩, R, R, R, R⟩ qI (.c 16 R <| .c 5 R <| .c 6 R <| .c 7 R <| zd _) (.c 2 R <| .c 14 R <| .c 15 R <| zd _) qD qD qF
 try simp only [dq] at h17
 subst hpl
 obtain rfl : i = cs.length := by omega
 rw [List.take_length] at hgd
 rw [List.take_length]
 refine y4 (zG (zG (y5 (z8 (ze (zD (O (E R R (yi R R R (V R R (I (zA R (fun h47 => ?_) (fun h47 => ?_)))))))))))))
 ·try simp only [dq] at h47
  refine O (yq R bu73 (zQ (out := (j8 :: j8 :: j8 :: j8 :: j8 :: j8 :: j8 :: j8 :: j8 :: j8 :: j8 :: j8 :: j8 :: j8 :: j8 :: j8 :: j8 :: j8 :: j8 :: j8 :: j8 :: j8 :: j8 :: j8 :: j8 :: j8 :: j8 :: j8 :: j8 :: j8 :: j8 :: j8 :: .int .i64 0 :: [])) R) ?_)
  refine zz ag73 R R qL qO qU qW ?_
  refine V R R (V R R (zu (y3 (A := cl b2 73 (j8 :: j8 :: j8 :: j8 :: j8 :: j8 :: j8 :: j8 :: j8 :: j8 :: j8 :: j8 :: j8 :: j8 :: j8 :: j8 :: j8 :: j8 :: j8 :: j8 :: j8 :: j8 :: j8 :: j8 :: j8 :: j8 :: j8 :: j8 :: j8 :: j8 :: j8 :: j8 :: .int .i64 0 :: [])) (B := cl b2 73 (ptC zP)) qP R ?_)))
  refine yM (sz := 34) (e := 88) ?_
  refine y3 qP (show own 34 88 none 0 0 [] = own 34 88 none 0 0 ((([] : List Ob)).map obC) from R) ?_
  refine z8 (zo (yv (zL ?_)))
  rw [bld_0 hgd h47]
  exact T.retATT R ag73 R qN R R ⟨_, _, _, R, R, R, R⟩ qD qF
 try simp only [dq] at h47
 refine O (E R R (yy R R R (V R R (I (zA R (fun h51 => ?_) (fun h51 => ?_))))))
 ·try simp only [dq] at h51
  refine O (yq R bu73 (zQ (out := (j8 :: j8 :: j8 :: j8 :: j8 :: j8 :: j8 :: j8 :: j8 :: j8 :: j8 :: j8 :: j8 :: j8 :: j8 :: j8 :: j8 :: j8 :: j8 :: j8 :: j8 :: j8 :: j8 :: j8 :: j8 :: j8 :: j8 :: j8 :: j8 :: j8 :: j8 :: j8 :: .int .i64 0 :: [])) R) ?_)
  refine zz ag73 R R qL qO qU qW ?_
  refine V R R (V R R (zu (y3 (A := cl b2 73 (j8 :: j8 :: j8 :: j8 :: j8 :: j8 :: j8 :: j8 :: j8 :: j8 :: j8 :: j8 :: j8 :: j8 :: j8 :: j8 :: j8 :: j8 :: j8 :: j8 :: j8 :: j8 :: j8 :: j8 :: j8 :: j8 :: j8 :: j8 :: j8 :: j8 :: j8 :: j8 :: .int .i64 0 :: [])) (B := cl b2 73 (ptC zP)) qP R ?_)))
  refine yM (sz := 34) (e := 88) ?_
  refine y3 qP (show own 34 88 none 0 0 [] = own 34 88 none 0 0 ((([] : List Ob)).map obC) from R) ?_
  refine z8 (zo (yv (zL ?_)))
  rw [bld_5 hgd h51]
  exact T.retATT R ag73 R qN R R ⟨_, _, _, R, R, R, R⟩ qD qF
 try simp only [dq] at h51
 have hps := good_size hgd
 have hpos : ∀ p ∈ cs.map lf, 1 ≤ p.2 := fun p hp => (hps p hp).1
 have h1n : 1 ≤ cs.length := Nat.pos_of_ne_zero fun e => h47 (by rw [e]; rfl)
 have hge := size_ge hpos cs.length (by rw [List.length_map]; exact Nat.le_refl _)
 have hsm : sizeP (cs.map lf) ≤ 32768 := by unfold sizeP; rw [List.length_map]; omega
 refine zq (zS (z8 (ze (O (V R R (I (zD (y8 (fun K' D' M' μ => ∃ (k f n5 n6 c5 c6 : Nat) (a5 a6 : Option Addr) (ps : List Pt) (os : List Ob), ((ps.length = n6 ∧ os.length = n5) ∧ (1 ≤ k ∧ 1 ≤ n6 ∧ k + f ≤ 40000 ∧ n5 ≤ 40000 * k) ∧ ((k = 1 ∧ n6 + 1 ≤ f) ∨ (2 ≤ k ∧ n6 ≤ f)) ∧ lvR f k ps os = lvR (cs.length + 1) 1 (cs.map lf) (cs.map lo) ∧ (∀ p ∈ ps, 1 ≤ p.2) ∧ sizeP ps ≤ 32768) ∧ K' = [(11, .int .i64 (k : Int)), (5, .slice a5 n5 c5), (6, .slice a6 n6 c6)] ∧ D' = [] ∧ M' = [cl b2 73 (ptC zP), own 34 88 a5 n5 c5 ((os).map obC), own 33 73 a6 n6 c6 ((ps).map ptC)] ∧ μ = 2 * f) (.c 2 R <| zd _) (⟨1, cs.length + 1, cs.length, cs.length, _, _, _, _, cs.map lf, cs.map lo, ⟨⟨List.length_map _, List.length_map _⟩, ⟨Nat.le_refl _, h1n, by omega, by omega⟩, Or.inl ⟨R, Nat.le_refl _⟩, R, hpos, hsm⟩, R, R, R, R⟩) (.c 11 R <| .c 5 R <| .c 6 R <| zd _) qD qS ?_))))))))
 rintro K1 D1 M1 m1 ⟨k, f, n5, n6, c5, c6, a5, a6, ps, os, ⟨⟨hpn, hon_⟩, ⟨hk1, hn6, hkf, hn5⟩, hf, hlv, hpos, hsm⟩, rfl, rfl, rfl, rfl⟩
 refine zM qA qA qA ?_
 refine ze (O (E R R (yi R R R (E R R (yT (t := 57) R (fun h2 => ?_) (fun h2 => ?_))))))
 ·try simp only [dq] at h2
  refine zw 57 true R R R R R jD (zw 57 true R R R R R jD (zw 57 true R R R R R jD (ym R R R (I (yV R R ?_)))))
  refine zq (z8 (ze (zD (ze ?_))))
  have hco : k = 1 ∨ 1 < ps.length := by omega
  obtain ⟨f2, rfl⟩ : ∃ f2, f = f2 + 1 := ⟨f - 1, by omega⟩
  rw [lvR_s hco] at hlv
  have hps : ∀ p ∈ ps, 0 ≤ p.2 ∧ p.2 ≤ 1000000000 := fun p hp => ⟨by have := hpos p hp; omega, by have := size_mem hpos hp; omega⟩
  have hgn : gN n6 = (n6 + 7) / 8 := rfl
  refine yQ (rows := ps.map ptC) qP ?_
  refine zt (E R R (E R R (zp R (ev2 R R) qD qS (level_spec (k := k) (ps := ps) jO jO hps) ?_)))
  rintro _ _ _ ⟨ua, oa, un, uc, on, oc, rfl, hun, hon, rfl, rfl⟩
  refine zm qA qA ?_
  refine E R R (zr R R R (zr R R R (V R R (V R R (I (yQ (rows := (upO k ps).map obC) qP ?_))))))
  refine zt (E R R (E R R (E R R (xC R xF xF el88 R R qP (rd_D qM) one_obs qI qI (fun a73 c73 => ?_)))))
  refine V R R (V R R (zu (zS (z8 (zt (E R R (zT R R R jO ?_)))))))
  refine V R R (I (yp (sz := 34) _ ((os ++ upO k ps).map obC) qP (by rw [List.map_append]) ?_))
  exact zV ⟨k + 1, f2, n5 + on, un, _, _, _, _, upP k ps, os ++ upO k ps, ⟨⟨by rw [upP_len, hpn, hun], by rw [List.length_append, upO_len, hpn, hon_, hon]⟩, ⟨by omega, by omega, by omega, by omega⟩, Or.inr ⟨by omega, by omega⟩, hlv, up_pos hpos, by rw [size_up]; exact hsm⟩, R, R, R, R⟩ qI (.c 11 R <| .c 5 R <| .c 6 R <| zd _) (.c 2 R <| zd _) qD qD qF
 try simp only [dq] at h2
 refine zj 57 R R R (E R R (zj 57 R R R (yb R xm R (zj 57 R R R (yy R R R (yg R R R (I (zA R (fun h61 => ?_) (fun h61 => ?_)))))))))
 ·try simp only [dq] at h61
  refine zq (z8 (ze (zD (ze ?_))))
  have hco : k = 1 ∨ 1 < ps.length := by omega
  obtain ⟨f2, rfl⟩ : ∃ f2, f = f2 + 1 := ⟨f - 1, by omega⟩
  rw [lvR_s hco] at hlv
  have hps : ∀ p ∈ ps, 0 ≤ p.2 ∧ p.2 ≤ 1000000000 := fun p hp => ⟨by have := hpos p hp; omega, by have := size_mem hpos hp; omega⟩
  have hgn : gN n6 = (n6 + 7) / 8 := rfl
  refine yQ (rows := ps.map ptC) qP ?_
  refine zt (E R R (E R R (zp R (ev2 R R) qD qS (level_spec (k := k) (ps := ps) jO jO hps) ?_)))
  rintro _ _ _ ⟨ua, oa, un, uc, on, oc, rfl, hun, hon, rfl, rfl⟩
  refine zm qA qA ?_
  refine E R R (zr R R R (zr R R R (V R R (V R R (I (yQ (rows := (upO k ps).map obC) qP ?_))))))
  refine zt (E R R (E R R (E R R (xC R xF xF el88 R R qP (rd_D qM) one_obs qI qI (fun a73 c73 => ?_)))))
  refine V R R (V R R (zu (zS (z8 (zt (E R R (zT R R R jO ?_)))))))
  refine V R R (I (yp (sz := 34) _ ((os ++ upO k ps).map obC) qP (by rw [List.map_append]) ?_))
  exact zV ⟨k + 1, f2, n5 + on, un, _, _, _, _, upP k ps, os ++ upO k ps, ⟨⟨by rw [upP_len, hpn, hun], by rw [List.length_append, upO_len, hpn, hon_, hon]⟩, ⟨by omega, by omega, by omega, by omega⟩, Or.inr ⟨by omega, by omega⟩, hlv, up_pos hpos, by rw [size_up]; exact hsm⟩, R, R, R, R⟩ qI (.c 11 R <| .c 5 R <| .c 6 R <| zd _) (.c 2 R <| zd _) qD qD qF
 try simp only [dq] at h61
 obtain ⟨p, rfl⟩ : ∃ p, ps = [p] := List.length_eq_one_iff.1 jO
 rw [lvR_z (by simp only [List.length_singleton]; omega)] at hlv
 refine yQ (rows := [p].map ptC) qP ?_
 have hgr : ([p].map ptC)[0]? = some (ptC p) := rfl
 have hp33 := ptC_len p
 refine y3 (A := cl b2 73 (ptC zP)) (B := cl b2 73 (j8 :: j8 :: j8 :: j8 :: j8 :: j8 :: j8 :: j8 :: j8 :: j8 :: j8 :: j8 :: j8 :: j8 :: j8 :: j8 :: j8 :: j8 :: j8 :: j8 :: j8 :: j8 :: j8 :: j8 :: j8 :: j8 :: j8 :: j8 :: j8 :: j8 :: j8 :: j8 :: .int .i64 0 :: [])) qP R ?_
 refine y4 (zG (zG (y5 (z8 (O (E R R (yP (i := 0) R xm sz73 R R qM jR qG (fun b75 o75 => ?_))))))))
 refine zx R ag73 R (xl qM (ptC_len _)) ?_
 refine E R R (zz ag73 R R qL qO qU qW ?_)
 refine V R R (V R R (I (zo ?_)))
 rw [bld_ok hgd h47 jO hlv.symm]
 exact T.retATT R ag73 R qN R R ⟨_, _, _, R, hon_, R, R⟩ qD qF
end Cv
