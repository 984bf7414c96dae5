/-
  The walks: Compare.
-/
import Derived.Test.YtncgoodlhmpfcaaGreatI05
import Derived.Test.YtncgoodlhmpfcaaGreatN05
set_option linter.all false
set_option maxHeartbeats 400000
set_option maxRecDepth 10000
namespace Cv
open Go Go.Proofs

theorem isnan_spec {x : Int}  : Spec Tryz.prog 172 [.int .i64 x] [] [] (fun v D' M' => v = .bool false ∧ D' = [] ∧ M' = []) := by
 refine zv (n := 6) Tryz.func172 ?_
 intro σ D M
 exact O (V R R (I (O (E R R (E R R (zZ R R R (V R R (I (zo (zy R R ⟨congrArg Value.bool (by simp), R, R⟩ qD qF))))))))))
theorem compare_spec {x y : Int}  : Spec Tryz.prog 109 [.int .i64 x, .int .i64 y] [] [] (fun v D' M' => v = .int .i64 (cmpI x y) ∧ D' = [] ∧ M' = []) := by
 refine zv (n := 20) Tryz.func109 ?_
 intro σ D M
 refine O (V R R (I (O (E R R (zH R (ev1 R) qD qS (isnan_spec ) jF ?_)))))
 refine V R R (I (O (E R R (zH R (ev1 R) qD qS (isnan_spec ) jF ?_))))
 refine V R R (I (ze (O (E R R (I (zR R R ?_))))))
 refine zq (z8 (ze (O (E R R (I (zR R R ?_))))))
 refine zq (z8 (ze (O (E R R (E R R (zW R R R (I (zA R (fun h16 => ?_) (fun h16 => ?_)))))))))
 ·try simp only [dq] at h16
  exact O (V R R (I (zo (zL (zy R R ⟨by rw [cmpI, if_pos h16], R, R⟩ qD qF)))))
 try simp only [dq] at h16
 refine zq (z8 (ze (O (E R R (E R R (yy R R R (I (zA R (fun h19 => ?_) (fun h19 => ?_)))))))))
 ·try simp only [dq] at h19
  exact O (V R R (I (zo (zL (zy R R ⟨by rw [cmpI, if_neg h16, if_pos h19], R, R⟩ qD qF)))))
 try simp only [dq] at h19
 exact zq (z8 (O (V R R (I (zo (zy R R ⟨by rw [cmpI, if_neg h16, if_neg h19], R, R⟩ qD qF))))))
theorem or_spec {a : Option Addr} {len cap : Nat} {xs : List Int} (hb : len ≤ 4611686018427387904) : Spec Tryz.prog 108 [.slice a len cap] [rsl 1 a len cap (xs.map e3)] [] (fun v D' M' => v = .int .i64 (orF xs) ∧ D' = [] ∧ M' = []) := by
 refine zv (n := 18) Tryz.func108 ?_
 intro σ D M
 refine yU qM (fun hl hc => ?_)
 rw [List.length_map] at hl
 refine O (V R R (I (O (V R R (I (ze (O (E R R (yb R Tryz.underlying221 R (E R R (I (zD (y8 (fun K' D' M' μ => ∃ (k : Nat), (k ≤ len ∧ orF xs = orF (xs.drop k)) ∧ K' = [(8, .int .i64 k)] ∧ D' = [] ∧ M' = [] ∧ μ = len - k) (.c 3 R <| .c 6 R <| .c 7 R <| zd _) (⟨0, ⟨by omega, by simp⟩, R, R, R, R⟩) (.c 8 R <| zd _) qD qS ?_)))))))))))))
 rintro K1 D1 M1 m1 ⟨k, ⟨hk, ho⟩, rfl, rfl, rfl, rfl⟩
 refine zM qA qA qA ?_
 refine O (zW R R R (I (ze (zA R (fun h9 => ?_) (fun h9 => ?_)))))
 ·try simp only [dq] at h9
  refine zq (z8 (ze (zD (ze (zt ?_)))))
  have hgd : xs[k]? = some (gd xs k) := y9 jO
  refine yP (i := k) R Tryz.underlying221 sz3 R R qM jR qG (fun b10 o10 => ?_)
  refine zf R sc3 R qC ?_
  refine V R R (I (O (E R R (E R R (zZ R R R (I (zA R (fun h14 => ?_) (fun h14 => ?_))))))))
  ·try simp only [dq] at h14
   exact O (E R R (V R R (I (zo (yv (zL (zL (yv (zL (zy R R ⟨by rw [ho, orF_drop jO, if_pos h14], R, R⟩ qD qF))))))))))
  try simp only [dq] at h14
  refine zq (zS (z8 (zt (zT R R R jO ?_))))
  exact E R R (I (zV ⟨k + 1, ⟨by omega, by rw [ho, orF_drop jO, if_neg (by simpa using h14)]⟩, R, R, R, R⟩ qI (.c 8 R <| zd _) (.c 3 R <| .c 6 R <| .c 7 R <| zd _) qD qD qF))
 try simp only [dq] at h9
 exact y4 (zG (zG (y5 (z8 (O (E R R (V R R (I (zo (zy R R ⟨by rw [ho, List.drop_of_length_le jO]; rfl, R, R⟩ qD qF))))))))))
def CompS (x : Tr) : Prop := ∀ (a : Option Addr) (len cap : Nat) (z : Tr) (a2 : Option Addr) (len2 cap2 : Nat), x.count ≤ 1000000 → Spec Tryz.prog 59 [.agg (iRow x a len cap).toArray, .agg (iRow z a2 len2 cap2).toArray] [rtr x (eRow x a len cap), rtr z (eRow z a2 len2 cap2)] [] (fun v D' M' => v = .int .i64 (compT x z) ∧ D' = [] ∧ M' = [])
theorem comp1_spec {x : Tr} (ih : CompS x) {a : Option Addr} {len cap : Nat} {z : Tr} {a2 : Option Addr} {len2 cap2 : Nat} (hc : x.count ≤ 1000000) : Spec Tryz.prog 111 [.agg (eRow x a len cap).toArray, .agg (eRow z a2 len2 cap2).toArray] [rtr x (eRow x a len cap), rtr z (eRow z a2 len2 cap2)] [] (fun v D' M' => v = .int .i64 (lexI (cmpB x.n z.n) (compT x z)) ∧ D' = [] ∧ M' = []) := by
 refine zv (n := 17) Tryz.func111 ?_
 intro σ D M
 refine O (y6 R R R (fun b2 => ?_))
 refine y6 R R R (fun b3 => ?_)
 refine V R R (zu (zO (A := cl b2 99 (eRow x a len cap)) qP ?_))
 refine zO (A := cl b3 99 (eRow z a2 len2 cap2)) qP ?_
 refine z8 (ze (y7 (clsL [1, 1, 1, 1, 2, 1, 1, 1, 1, 2, 2, 2, 2]) qk ?_))
 refine z9 0 R R (zg R fo99_0 R ?_)
 refine z7 (z9 1 R R (zf R sc9 R qC ?_))
 refine z7 (z9 2 R R (zg R fo99_0 R ?_))
 refine z7 (z9 3 R R (zf R sc9 R qC ?_))
 refine z7 (z9 5 R R (zg R fo99_1 R ?_))
 refine z7 (z9 6 R R (zx R yC R qN ?_))
 refine z7 (z9 7 R R (zg R fo99_1 R ?_))
 refine z7 (z9 8 R R (zx R yC R qN ?_))
 refine z7 (zi 4 R (zH R (ev2 R R) qD qS (scmp_spec (p := x.n) (q := z.n)) jF ?_))
 refine zh R qD ?_
 refine zi 9 R (zH R (ev2 R R) qD qS (ih a len cap z a2 len2 cap2 hc) jF ?_)
 refine zh R qD ?_
 refine zi 10 R (yl R bs221 jD (zF R R R <| zF R R R <| zQ (out := []) R) (fun b15 => ?_))
 refine yR (len := 2) (sz := 1) (e := 3) (rows := [cmpB x.n z.n, compT x z].map e3) qP (by rfl) R (by simp) ?_
 refine yF qP ?_
 refine zh R qD ?_
 refine zi 11 R (zH R (ev1 R) qD qS (or_spec (xs := [cmpB x.n z.n, compT x z]) jD) jF ?_)
 refine zh R qD ?_
 refine zi 12 R (V R R (zh R qD ?_))
 refine zN qk ?_
 exact z8 (zo (zy R R ⟨by rw [or2], R, R⟩ qD qF))
theorem compf_spec {ks ks2 : List Tr} (hc : ∀ y ∈ ks, CompS y ∧ y.count ≤ 1000000) {a : Option Addr} {len cap : Nat} {a2 : Option Addr} {len2 cap2 : Nat} {rows rows2 : List (List Value)} (hb : len ≤ 1000000) (hkl : ks.length = len) (hkl2 : ks2.length = len2) : Spec Tryz.prog 110 [.slice a len cap, .slice a2 len2 cap2, fnV 111 []] [rsl 4 a len cap rows, kidsA ks rows, rsl 4 a2 len2 cap2 rows2, kidsA ks2 rows2] [] (fun v D' M' => v = .int .i64 (compL ks ks2) ∧ D' = [] ∧ M' = []) := by
 refine zv (n := 39) Tryz.func110 ?_
 intro σ D M
 refine T.rslLen (a := a) qM (fun hrl => ?_)
 refine T.rslLen (a := a2) qM (fun hrl2 => ?_)
 refine T.kidRows (rows := rows) qM (fun hrw => ?_)
 refine T.kidRows (rows := rows2) qM (fun hrw2 => ?_)
 refine O (V R R (I (ze (O (E R R (yb R yK R (E R R (I (zD (y8 (fun K' D' M' μ => ∃ (i : Nat), ((i ≤ len ∧ i ≤ len2) ∧ compL ks ks2 = compL (ks.drop i) (ks2.drop i)) ∧ K' = [(13, .int .i64 i)] ∧ D' = [] ∧ M' = [] ∧ μ = len - i) (.c 0 R <| .c 1 R <| .c 2 R <| .c 11 R <| .c 12 R <| zd _) (⟨0, ⟨by omega, by simp⟩, R, R, R, R⟩) (.c 13 R <| zd _) qD qS ?_))))))))))
 rintro K1 D1 M1 m1 ⟨i, ⟨hi, hI⟩, rfl, rfl, rfl, rfl⟩
 refine zM qA qA qA ?_
 refine O (zW R R R (I (ze (zA R (fun h14 => ?_) (fun h14 => ?_)))))
 ·try simp only [dq] at h14
  refine zq (z8 (ze (zD (ze ?_))))
  have hy : ks[i]? = some (gd ks i) := y9 jO
  obtain ⟨y, hyy⟩ : ∃ y, y = gd ks i := ⟨_, rfl⟩
  rw [← hyy] at hy
  refine T.kidOpen (rows := rows) qM hy (fun ka kl kc hr => ?_)
  refine zt (E R R (yP (i := i) R yK sz99 R R qM jR qG (fun b16 o16 => ?_)))
  refine zx R ag99 R qN ?_
  refine zC R ze99 (fun b8 => ?_)
  refine V R R (zz ag99 R R qL qO qU qW ?_)
  refine I (ze (O (E R R (E R R (yb R yK R (L.geI R R R (I (zA R (fun h21 => ?_) (fun h21 => ?_)))))))))
  ·try simp only [dq] at h21
   exact O (V R R (I (zo (zL (yv (zL (zL (yv (zL (zy R R ⟨by rw [hI, compL_long jO jO], R, R⟩ qD qF))))))))))
  try simp only [dq] at h21
  refine zq (z8 (ze ?_))
  have hz : ks2[i]? = some (gd ks2 i) := y9 jO
  obtain ⟨z, hzz⟩ : ∃ y, y = gd ks2 i := ⟨_, rfl⟩
  rw [← hzz] at hz
  refine T.kidOpen (rows := rows2) qM hz (fun za zl zc hr2 => ?_)
  refine zt (E R R (E R R (yP (i := i) R yK sz99 R R qM jR qG (fun b24 o24 => ?_))))
  refine zx R ag99 R qN ?_
  refine zC R ze99 (fun b9 => ?_)
  refine zz ag99 R R qL qO qU qW ?_
  refine I (O (E R R (zx R ag99 R qN ?_)))
  refine zx R ag99 R qN ?_
  refine L.callVF R R (ev2 R R) qD qS (comp1_spec (hc y (kid_mem hy)).1 (hc y (kid_mem hy)).2) jF ?_
  refine V R R (I (O (E R R (zZ R R R (I (zA R (fun h31 => ?_) (fun h31 => ?_)))))))
  ·try simp only [dq] at h31
   exact O (E R R (V R R (I (zo (yv (zL (zL (yv (zL (zy R R ⟨by rw [hI, compL_step hy hz, lexI.eq_1 (lexI _ _), if_pos h31], R, R⟩ qD qF))))))))))
  try simp only [dq] at h31
  refine zq (zS (z8 (zt (zT R R R jO ?_))))
  exact E R R (I (zV ⟨i + 1, ⟨by omega, by rw [hI, compL_step hy hz, lexI, if_neg (by simpa using h31)]⟩, R, R, R, R⟩ qI (.c 13 R <| zd _) (.c 0 R <| .c 1 R <| .c 2 R <| .c 11 R <| .c 12 R <| zd _) qD qD qF))
 try simp only [dq] at h14
 refine y4 (zG (zG (y5 (z8 (ze (O (E R R (yb R yK R (E R R (yb R yK R (zW R R R (I (zA R (fun h38 => ?_) (fun h38 => ?_))))))))))))))
 ·try simp only [dq] at h38
  exact O (V R R (I (zo (zL (zy R R ⟨by rw [hI, compL_end jO, if_pos jO], R, R⟩ qD qF)))))
 try simp only [dq] at h38
 exact zq (z8 (O (V R R (I (zo (zy R R ⟨by rw [hI, compL_end jO, if_neg jO], R, R⟩ qD qF))))))
theorem comp_step (x : Tr) (ih : ∀ y ∈ x.ks, CompS y) (a : Option Addr) (len cap : Nat) (z : Tr) (a2 : Option Addr) (len2 cap2 : Nat) (hc : x.count ≤ 1000000) : Spec Tryz.prog 59 [.agg (iRow x a len cap).toArray, .agg (iRow z a2 len2 cap2).toArray] [rtr x (eRow x a len cap), rtr z (eRow z a2 len2 cap2)] [] (fun v D' M' => v = .int .i64 (compT x z) ∧ D' = [] ∧ M' = []) := by
 refine zv (n := 26) Tryz.func59 ?_
 intro σ D M
 refine T.trOpenR (x := x) qM (fun rows hkl hrl => ?_)
 subst hkl
 refine T.trOpenR (x := z) qM (fun rows2 hkl2 hrl2 => ?_)
 subst hkl2
 have hcx := x.count_eq
 have hcl := count_le_len x.ks
 refine O (y6 R R R (fun b2 => ?_))
 refine y6 R R R (fun b3 => ?_)
 refine V R R (zu (zO (A := cl b2 44 [.int .i64 x.k, S x.t, .slice a x.ks.length cap]) qP ?_))
 refine zO (A := cl b3 44 [.int .i64 z.k, S z.t, .slice a2 z.ks.length cap2]) qP ?_
 refine z8 (ze (ze (y7 (clsL [1, 1, 1, 1, 2, 1, 1, 1, 1, 2, 2, 2, 2]) qk ?_)))
 refine z9 0 R R (zg R fo44_0 R ?_)
 refine z7 (z9 1 R R (zf R sc3 R qC ?_))
 refine z7 (z9 2 R R (zg R fo44_0 R ?_))
 refine z7 (z9 3 R R (zf R sc3 R qC ?_))
 refine z7 (z9 5 R R (zg R fo44_1 R ?_))
 refine z7 (z9 6 R R (zf R sc9 R qC ?_))
 refine z7 (z9 7 R R (zg R fo44_1 R ?_))
 refine z7 (z9 8 R R (zf R sc9 R qC ?_))
 refine z7 (zi 4 R (zH R (ev2 R R) qD qS (compare_spec (x := x.k) (y := z.k)) jF ?_))
 refine zh R qD ?_
 refine zi 9 R (zH R (ev2 R R) qD qS (scmp_spec (p := x.t) (q := z.t)) jF ?_)
 refine zh R qD ?_
 refine zi 10 R (yl R bs221 jD (zF R R R <| zF R R R <| zQ (out := []) R) (fun b16 => ?_))
 refine yR (len := 2) (sz := 1) (e := 3) (rows := [cmpI x.k z.k, cmpB x.t z.t].map e3) qP (by rfl) R (by simp) ?_
 refine yF qP ?_
 refine zh R qD ?_
 refine zi 11 R (zH R (ev1 R) qD qS (or_spec (xs := [cmpI x.k z.k, cmpB x.t z.t]) jD) jF ?_)
 refine zh R qD ?_
 refine zi 12 R (V R R (zh R qD ?_))
 refine zN qk ?_
 refine z8 (O (E R R (zZ R R R (I (zA R (fun h19 => ?_) (fun h19 => ?_))))))
 ·try simp only [dq] at h19
  exact O (E R R (V R R (I (zo (zL (zy R R ⟨by rw [or2] at h19 ⊢; rw [compT_eq, lexI_nz h19], R, R⟩ qD qF))))))
 try simp only [dq] at h19
 refine zq (z8 (O (zg R fo44_2 R ?_)))
 refine zf R sc42 R qC ?_
 refine zg R fo44_2 R ?_
 refine zf R sc42 R qC ?_
 refine zH R (ev3 R R R) qD qS (compf_spec (ks := x.ks) (ks2 := z.ks) (fun y hy => ⟨ih y hy, by have := count_mem hy; omega⟩) jO R R) jF ?_
 exact V R R (I (zo (zy R R ⟨by rw [or2] at h19; rw [compT_eq, lexI_z (by simpa using h19)], R, R⟩ qD qF)))
theorem comp_spec (x : Tr) : CompS x := Tr.ind (p := CompS) (fun x ih a len cap z a2 len2 cap2 hc => comp_step x ih a len cap z a2 len2 cap2 hc) x
theorem same_spec {x z : Tr} {a a2 : Option Addr} {len cap len2 cap2 : Nat} (hc : x.count ≤ 1000000) : Spec Tryz.prog 22 [.agg (iRow x a len cap).toArray, .agg (iRow z a2 len2 cap2).toArray] [rtr x (eRow x a len cap), rtr z (eRow z a2 len2 cap2)] [] (fun v D' M' => v = .bool (decide (compT x z = 0)) ∧ D' = [] ∧ M' = []) := by
 refine zv (n := 9) Tryz.func22 ?_
 intro σ D M
 refine O (y6 R R R (fun b2 => ?_))
 refine y6 R R R (fun b3 => ?_)
 refine V R R (I (O (zx R yC R qN ?_)))
 refine zx R yC R qN ?_
 refine zH R (ev2 R R) qD qS (comp_spec x _ _ _ z _ _ _ hc) jF ?_
 exact yi R R R (V R R (I (zo (zy R R ⟨R, R, R⟩ qD qF))))
end Cv
