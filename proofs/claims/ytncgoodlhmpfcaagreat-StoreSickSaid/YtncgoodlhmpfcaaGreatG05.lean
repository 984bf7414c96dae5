/-
  The walks: Check.
-/
import Derived.Test.YtncgoodlhmpfcaaGreatD05
set_option linter.all false
set_option maxHeartbeats 400000
set_option maxRecDepth 10000
namespace Cv
open Go Go.Proofs

def ChkS (x : Tr) : Prop := ∀ (a : Option Addr) (len cap : Nat) (d : Nat), (1 ≤ d) → (d + x.count ≤ 1000000) → (TAll Sm x) → (x.t.length ≤ 20000) → Spec Tryz.prog 174 [.agg (iRow x a len cap).toArray, .int .i64 (d : Int)] [rtr x (eRow x a len cap)] [] (fun v D' M' => v = .tuple #[.int .i64 ((chkT x d).1 : Int), .int .i64 (chkT x d).2] ∧ D' = [] ∧ M' = [])
theorem chk_spec_step (x : Tr) (ih : ∀ y ∈ x.ks, ChkS y) (a : Option Addr) (len cap : Nat) (d : Nat) (hd : 1 ≤ d) (hc : d + x.count ≤ 1000000) (hs : TAll Sm x) (htl : x.t.length ≤ 20000) : Spec Tryz.prog 174 [.agg (iRow x a len cap).toArray, .int .i64 (d : Int)] [rtr x (eRow x a len cap)] [] (fun v D' M' => v = .tuple #[.int .i64 ((chkT x d).1 : Int), .int .i64 (chkT x d).2] ∧ D' = [] ∧ M' = []) := by
 refine zv (n := 114) Tryz.func174 ?_
 intro σ D M
 refine T.trOpenR qM (fun rows hkl hrl => ?_)
 subst hkl
 refine T.kidRows qM (fun hrw => ?_)
 have hz0 : (0 ≤ ibF x.t 0) ↔ (0 : UInt8) ∈ x.t := ibF_ge
 have hcx := x.count_eq
 have hcl := count_le_len x.ks
 refine O (y6 R R R (fun b2 => ?_))
 refine V R R (V R R (zu (zO (A := cl b2 44 [.int .i64 x.k, S x.t, .slice a x.ks.length cap]) qP ?_)))
 refine z8 (ze (zD (ze (yx (fun K' D' M' => ∃ (b1 : Bool), (b1 = true ↔ (x.k < 1 ∨ 4 < x.k)) ∧ K' = [(11, .bool b1)] ∧ D' = [] ∧ M' = []) (M0 := []) (.c 1 R <| .c 2 R <| zd _) qS ?_ ?_))))
 ·refine zt (zg R fo44_0 R ?_)
  refine zf R sc3 R qC ?_
  refine zW R R R (E R R (yT (t := 15) R (fun h1 => ?_) (fun h1 => ?_)))
  ·try simp only [dq] at h1
   exact zw 15 true R R R R R jD (zw 15 true R R R R R jD (zw 15 true R R R R R jD (ym R R R (V R R (I (zK ⟨_, (by simp_all <;> omega), R, R, R⟩ (.c 11 R <| zd _) (.c 1 R <| .c 2 R <| zd _) qD qD qF))))))
  try simp only [dq] at h1
  refine zj 15 R R R (zg R fo44_0 R ?_)
  refine zj 15 R R R (zf R sc3 R qC ?_)
  exact zj 15 R R R (yy R R R (yg R R R (V R R (I (zK ⟨_, (by simp_all <;> omega), R, R, R⟩ (.c 11 R <| zd _) (.c 1 R <| .c 2 R <| zd _) qD qD qF)))))
 rintro _ _ _ ⟨b1, hb1, rfl, rfl, rfl⟩
 refine zM qA qA qA ?_
 refine z8 (zA R (fun h11 => ?_) (fun h11 => ?_))
 ·try simp only [dq] at h11
  exact O (V R R (V R R (I (zo (yv (zL (x8 R R R ⟨by rw [chk_bad (own0_1 (hb1.1 h11)) jD]; rfl, R, R⟩ qD qF)))))))
 try simp only [dq] at h11
 have hn1 : ¬ (x.k < 1 ∨ 4 < x.k) := fun q => by rw [hb1.2 q] at h11; cases h11
 refine ze (ze (yx (fun K' D' M' => ∃ (b2 : Bool), (b2 = true ↔ (x.k ≠ 4 ∧ 0 < x.ks.length)) ∧ K' = [(20, .bool b2)] ∧ D' = [] ∧ M' = []) (M0 := []) (.c 1 R <| .c 2 R <| zd _) qS ?_ ?_))
 ·refine zt (zg R fo44_0 R ?_)
  refine zf R sc3 R qC ?_
  refine zZ R R R (E R R (yT (t := 24) R (fun h2 => ?_) (fun h2 => ?_)))
  ·try simp only [dq] at h2
   refine zj 24 R R R (zg R fo44_2 R ?_)
   refine zj 24 R R R (zf R sc42 R qC ?_)
   exact zj 24 R R R (yb R yK R (zj 24 R R R (yy R R R (ym R R R (V R R (I (zK ⟨_, (by simp_all <;> omega), R, R, R⟩ (.c 20 R <| zd _) (.c 1 R <| .c 2 R <| zd _) qD qD qF)))))))
  try simp only [dq] at h2
  exact zw 24 false R R R R R jD (zw 24 false R R R R R jD (zw 24 false R R R R R jD (zw 24 false R R R R R jD (yg R R R (V R R (I (zK ⟨_, (by simp_all <;> omega), R, R, R⟩ (.c 20 R <| zd _) (.c 1 R <| .c 2 R <| zd _) qD qD qF)))))))
 rintro _ _ _ ⟨b2, hb2, rfl, rfl, rfl⟩
 refine zM qA qA qA ?_
 refine z8 (yx (fun K' D' M' => ∃ (b3 : Bool), (b3 = true ↔ ((x.k ≠ 4 ∧ 0 < x.ks.length) ∨ (x.k = 4 ∧ x.t ≠ []) ∨ (x.k = 3 ∧ x.t = []))) ∧ K' = [(20, .bool b3)] ∧ D' = [] ∧ M' = []) (M0 := []) (.c 1 R <| .c 2 R <| zd _) qS ?_ ?_)
 ·refine zA R (fun h20 => ?_) (fun h20 => ?_)
  ·try simp only [dq] at h20
   exact zq (z8 (zK ⟨_, (by simp_all <;> omega), R, R, R⟩ (.c 20 R <| zd _) (.c 1 R <| .c 2 R <| zd _) qD qD qF))
  try simp only [dq] at h20
  try (have hn2 : ¬ ((x.k ≠ 4 ∧ decide (0 < x.ks.length) = true) ∨ (x.k = 4 ∧ x.t ≠ []) ∨ (x.k = 3 ∧ x.t = [])) := fun q => by rw [hb3.2 (by simpa using q)] at h20; cases h20)
  refine ze (yx (fun K' D' M' => ∃ (b4 : Bool), (b4 = true ↔ (x.k = 4 ∧ x.t ≠ [])) ∧ K' = [(20, .bool b4)] ∧ D' = [] ∧ M' = []) (M0 := []) (.c 1 R <| .c 2 R <| zd _) qS ?_ ?_)
  ·refine zt (zg R fo44_0 R ?_)
   refine zf R sc3 R qC ?_
   refine yi R R R (E R R (yT (t := 33) R (fun h3 => ?_) (fun h3 => ?_)))
   ·try simp only [dq] at h3
    refine zj 33 R R R (zg R fo44_1 R ?_)
    refine zj 33 R R R (zf R sc9 R qC ?_)
    refine zj 33 R R R (L.neS R R R ?_)
    exact ym R R R (V R R (I (zK ⟨_, (by simp_all <;> omega), R, R, R⟩ (.c 20 R <| zd _) (.c 1 R <| .c 2 R <| zd _) qD qD qF)))
   try simp only [dq] at h3
   exact zw 33 false R R R R R jD (zw 33 false R R R R R jD (zw 33 false R R R R R jD (yg R R R (V R R (I (zK ⟨_, (by simp_all <;> omega), R, R, R⟩ (.c 20 R <| zd _) (.c 1 R <| .c 2 R <| zd _) qD qD qF))))))
  rintro _ _ _ ⟨b4, hb4, rfl, rfl, rfl⟩
  refine zM qA qA qA ?_
  refine z8 (zA R (fun h20 => ?_) (fun h20 => ?_))
  ·try simp only [dq] at h20
   exact zq (z8 (zK ⟨_, (by simp_all <;> omega), R, R, R⟩ (.c 20 R <| zd _) (.c 1 R <| .c 2 R <| zd _) qD qD qF))
  try simp only [dq] at h20
  try (have hn2 : ¬ ((x.k ≠ 4 ∧ decide (0 < x.ks.length) = true) ∨ (x.k = 4 ∧ x.t ≠ []) ∨ (x.k = 3 ∧ x.t = [])) := fun q => by rw [hb3.2 (by simpa using q)] at h20; cases h20)
  refine zt (zg R fo44_0 R ?_)
  refine zf R sc3 R qC ?_
  refine yi R R R (E R R (yT (t := 41) R (fun h4 => ?_) (fun h4 => ?_)))
  ·try simp only [dq] at h4
   refine zj 41 R R R (zg R fo44_1 R ?_)
   refine zj 41 R R R (zf R sc9 R qC ?_)
   refine zj 41 R R R (L.eqS R R R ?_)
   exact ym R R R (V R R (I (zK ⟨_, (by simp_all <;> omega), R, R, R⟩ (.c 20 R <| zd _) (.c 1 R <| .c 2 R <| zd _) qD qD qF)))
  try simp only [dq] at h4
  exact zw 41 false R R R R R jD (zw 41 false R R R R R jD (zw 41 false R R R R R jD (yg R R R (V R R (I (zK ⟨_, (by simp_all <;> omega), R, R, R⟩ (.c 20 R <| zd _) (.c 1 R <| .c 2 R <| zd _) qD qD qF))))))
 rintro _ _ _ ⟨b3, hb3, rfl, rfl, rfl⟩
 refine zM qA qA qA ?_
 refine z8 (zA R (fun h20 => ?_) (fun h20 => ?_))
 ·try simp only [dq] at h20
  exact O (V R R (V R R (I (zo (yv (zL (x8 R R R ⟨by rw [chk_bad (own0_2 hn1 (by simpa using hb3.1 h20)) jD]; rfl, R, R⟩ qD qF)))))))
 try simp only [dq] at h20
 try (have hn2 : ¬ ((x.k ≠ 4 ∧ decide (0 < x.ks.length) = true) ∨ (x.k = 4 ∧ x.t ≠ []) ∨ (x.k = 3 ∧ x.t = [])) := fun q => by rw [hb3.2 (by simpa using q)] at h20; cases h20)
 refine ze (yx (fun K' D' M' => ∃ (b5 : Bool), (b5 = true ↔ (x.k = 3 ∧ (24 < x.t.length ∨ (0 : UInt8) ∈ x.t))) ∧ K' = [(46, .bool b5)] ∧ D' = [] ∧ M' = []) (M0 := []) (.c 1 R <| .c 2 R <| zd _) qS ?_ ?_)
 ·refine zt (zg R fo44_0 R ?_)
  refine zf R sc3 R qC ?_
  refine yi R R R (E R R (yT (t := 50) R (fun h5 => ?_) (fun h5 => ?_)))
  ·try simp only [dq] at h5
   refine zj 50 R R R (zg R fo44_1 R ?_)
   refine zj 50 R R R (zf R sc9 R qC ?_)
   refine zj 50 R R R (yL R ye R (zj 50 R R R (yy R R R (zj 50 R R R (E R R (yT (t := 55) R (fun h6 => ?_) (fun h6 => ?_)))))))
   ·try simp only [dq] at h6
    exact zw 55 true R R R R R jD (zw 55 true R R R R R jD (zw 55 true R R R R R jD (zj 50 R R R (ym R R R (ym R R R (V R R (I (zK ⟨_, (by simp_all <;> omega), R, R, R⟩ (.c 46 R <| zd _) (.c 1 R <| .c 2 R <| zd _) qD qD qF))))))))
   try simp only [dq] at h6
   refine zj 55 R R R (zg R fo44_1 R ?_)
   refine zj 55 R R R (zf R sc9 R qC ?_)
   refine zj 55 R R R (zH R (ev2 R R) qD qS (scont_spec (l := x.t) (c := 0)) jF ?_)
   exact zj 50 R R R (yg R R R (ym R R R (V R R (I (zK ⟨_, (by simp_all <;> omega), R, R, R⟩ (.c 46 R <| zd _) (.c 1 R <| .c 2 R <| zd _) qD qD qF)))))
  try simp only [dq] at h5
  exact zw 50 false R R R R R jD (zw 50 false R R R R R jD (zw 50 false R R R R R jD (zw 50 false R R R R R jD (zw 50 false R R R R R jD (xG (dj := 55) R R R R R (xG (dj := 55) R R R R R (xG (dj := 55) R R R R R (zw 50 false R R R R R jD (yg R R R (V R R (I (zK ⟨_, (by simp_all <;> omega), R, R, R⟩ (.c 46 R <| zd _) (.c 1 R <| .c 2 R <| zd _) qD qD qF))))))))))))
 rintro _ _ _ ⟨b5, hb5, rfl, rfl, rfl⟩
 refine zM qA qA qA ?_
 refine z8 (zA R (fun h46 => ?_) (fun h46 => ?_))
 ·try simp only [dq] at h46
  exact O (V R R (V R R (I (zo (yv (zL (x8 R R R ⟨by rw [chk_bad (own0_3 hn1 hn2 (hb5.1 h46)) jD]; rfl, R, R⟩ qD qF)))))))
 try simp only [dq] at h46
 have hn3 : ¬ (x.k = 3 ∧ (24 < x.t.length ∨ (0 : UInt8) ∈ x.t)) := fun q => by rw [hb5.2 q] at h46; cases h46
 refine ze (yx (fun K' D' M' => ∃ (b6 : Bool), (b6 = true ↔ (8192 < x.t.length ∨ 8 < d)) ∧ K' = [(61, .bool b6)] ∧ D' = [] ∧ M' = []) (M0 := []) (.c 1 R <| .c 2 R <| zd _) qS ?_ ?_)
 ·refine zt (zg R fo44_1 R ?_)
  refine zf R sc9 R qC ?_
  refine yL R ye R (yy R R R (E R R (yT (t := 66) R (fun h7 => ?_) (fun h7 => ?_))))
  ·try simp only [dq] at h7
   exact zw 66 true R R R R R jD (zw 66 true R R R R R jD (ym R R R (V R R (I (zK ⟨_, (by simp_all <;> omega), R, R, R⟩ (.c 61 R <| zd _) (.c 1 R <| .c 2 R <| zd _) qD qD qF)))))
  try simp only [dq] at h7
  exact zj 66 R R R (E R R (zj 66 R R R (yy R R R (yg R R R (V R R (I (zK ⟨_, (by simp_all <;> omega), R, R, R⟩ (.c 61 R <| zd _) (.c 1 R <| .c 2 R <| zd _) qD qD qF)))))))
 rintro _ _ _ ⟨b6, hb6, rfl, rfl, rfl⟩
 refine zM qA qA qA ?_
 refine z8 (zA R (fun h61 => ?_) (fun h61 => ?_))
 ·try simp only [dq] at h61
  exact O (V R R (V R R (I (zo (yv (zL (x8 R R R ⟨by rw [chk_bad (own0_4 hn1 hn2 hn3 (hb6.1 h61)) jD]; rfl, R, R⟩ qD qF)))))))
 try simp only [dq] at h61
 have hn4 : ¬ (8192 < x.t.length ∨ 8 < d) := fun q => by rw [hb6.2 q] at h61; cases h61
 refine zq (zS (z8 (O (V R R (I (ze (O (zg R fo44_2 R ?_))))))))
 refine zf R sc42 R qC ?_
 refine yb R yK R (E R R (I (zD (y8 (fun K' D' M' μ => ∃ (n i : Nat), (i ≤ x.ks.length ∧ n ≤ 1 + countL (x.ks.take i) ∧ ChkI x d i n) ∧ K' = [(6, .int .i64 (n : Int)), (73, .int .i64 i)] ∧ D' = [] ∧ M' = [] ∧ μ = x.ks.length - i) (.c 1 R <| .c 2 R <| .c 71 R <| .c 72 R <| zd _) (⟨1, 0, ⟨by omega, by simp [countL], ChkI.zero (own0_5 hn1 hn2 hn3 hn4)⟩, R, R, R, R⟩) (.c 6 R <| .c 73 R <| zd _) qD qS ?_))))
 rintro K1 D1 M1 m1 ⟨n, i, ⟨hi, hn, hI⟩, rfl, rfl, rfl, rfl⟩
 refine zM qA qA qA ?_
 refine O (zW R R R (I (ze (zA R (fun h74 => ?_) (fun h74 => ?_)))))
 ·try simp only [dq] at h74
  refine zq (z8 (ze (zD (ze ?_))))
  have hy : x.ks[i]? = some (gd x.ks i) := y9 jO
  obtain ⟨y, hyy⟩ : ∃ y, y = gd x.ks i := ⟨_, rfl⟩
  rw [← hyy] at hy
  refine T.kidOpen qM hy (fun ka kl kc hr => ?_)
  have hcs := countL_step hy
  have hcy := count_pos y
  have hsy := hs.kid (kid_mem hy)
  have hcle := chk_le y (d + 1) jO
  refine zt (E R R (yP (i := i) R yK sz99 R R qM jR qG (fun b76 o76 => ?_)))
  refine zx R ag99 R qN ?_
  refine zC R ze99 (fun b8 => ?_)
  refine V R R (zz ag99 R R qL qO qU qW ?_)
  refine zu (T.rslAddr qM (show rows ≠ [] from fun e => by rw [e] at hrl; simp at hrl; omega) (fun bo oo ha => ?_))
  subst ha
  refine z8 (ze (ze (yx (fun K' D' M' => ∃ (b7 : Bool), (b7 = true ↔ (nameB y.n = false ∨ (0 < i ∧ bless (gd x.ks (i - 1)).n y.n = false))) ∧ K' = [(97, .bool b7)] ∧ D' = [] ∧ M' = []) (M0 := []) (.c 1 R <| .c 2 R <| .c 6 R <| .c 8 R <| .c 71 R <| .c 72 R <| .c 73 R <| zd _) qS ?_ ?_)))
  ·refine xg qk qk (zg R fo99_0 R ?_)
   refine zf R sc9 R qC ?_
   refine zH R (ev1 R) qD qS (name_spec (s := y.n) (by have := hsy.1.1; omega)) jF ?_
   refine x7 R R (E R R (yT (t := 82) R (fun h8 => ?_) (fun h8 => ?_)))
   ·try simp only [dq] at h8
    refine zw 82 true R R R R R jD (zw 82 true R R R R R jD (zw 82 true R R R R R jD (xG (dj := 85) R R R R R (xG (dj := 85) R R R R R (xG (dj := 85) R R R R R (xG (dj := 85) R R R R R ?_))))))
    obtain ⟨pa, pl, pc, hpr⟩ := hrw (i - 1) (gd x.ks (i - 1)) (y9 jO)
    exact xG (dj := 85) R R R R R (xG (dj := 85) R R R R R (xG (dj := 85) R R R R R (xG (dj := 85) R R R R R (xG (dj := 85) R R R R R (xG (dj := 85) R R R R R (zw 82 true R R R R R jD (ym R R R (yY (z8 (zK ⟨_, (by simp_all <;> omega), R, R, R⟩ (.c 97 R <| zd _) (.c 1 R <| .c 2 R <| .c 6 R <| .c 8 R <| .c 71 R <| .c 72 R <| .c 73 R <| zd _) qD qD qF))))))))))
   try simp only [dq] at h8
   refine zj 82 R R R (E R R (zj 82 R R R (yy R R R (zj 82 R R R (E R R (yT (t := 85) R (fun h9 => ?_) (fun h9 => ?_)))))))
   ·try simp only [dq] at h9
    refine zj 85 R R R (zg R fo44_2 R ?_)
    refine zj 85 R R R (zf R sc42 R qC ?_)
    refine zj 85 R R R (E R R (zj 85 R R R (yt R R R jO ?_)))
    obtain ⟨pa, pl, pc, hpr⟩ := hrw (i - 1) (gd x.ks (i - 1)) (y9 jO)
    refine zj 85 R R R (L.idxR (i := i - 1) R yK sz99 R R qM jR qI qG ?_)
    refine zj 85 R R R (zg R fo99_0 R ?_)
    refine zj 85 R R R (zf R sc9 R qC ?_)
    refine zj 85 R R R (zg R fo99_0 R ?_)
    refine zj 85 R R R (zf R sc9 R qC ?_)
    refine zj 85 R R R (L.geS R R R ?_)
    exact zj 82 R R R (ym R R R (yg R R R (yY (z8 (zK ⟨_, (by simp_all <;> omega), R, R, R⟩ (.c 97 R <| zd _) (.c 1 R <| .c 2 R <| .c 6 R <| .c 8 R <| .c 71 R <| .c 72 R <| .c 73 R <| zd _) qD qD qF)))))
   try simp only [dq] at h9
   refine zw 85 false R R R R R jD (zw 85 false R R R R R jD (zw 85 false R R R R R jD (zw 85 false R R R R R jD ?_)))
   obtain ⟨pa, pl, pc, hpr⟩ := hrw (i - 1) (gd x.ks (i - 1)) (y9 jO)
   exact zw 85 false R R R R R jD (zw 85 false R R R R R jD (zw 85 false R R R R R jD (zw 85 false R R R R R jD (zw 85 false R R R R R jD (zw 85 false R R R R R jD (zj 82 R R R (yg R R R (yg R R R (yY (z8 (zK ⟨_, (by simp_all <;> omega), R, R, R⟩ (.c 97 R <| zd _) (.c 1 R <| .c 2 R <| .c 6 R <| .c 8 R <| .c 71 R <| .c 72 R <| .c 73 R <| zd _) qD qD qF)))))))))))
  rintro _ _ _ ⟨b7, hb7, rfl, rfl, rfl⟩
  refine zM qA qA qA ?_
  refine z8 (zA R (fun h97 => ?_) (fun h97 => ?_))
  ·try simp only [dq] at h97
   exact O (V R R (V R R (I (zo (zL (yv (zL (zL (yv (zL (x8 R R R ⟨by rw [hI.bad hy (hb7.1 h97)]; rfl, R, R⟩ qD qF)))))))))))
  try simp only [dq] at h97
  have hn7 : ¬ (nameB y.n = false ∨ (0 < i ∧ bless (gd x.ks (i - 1)).n y.n = false)) := fun q => by rw [hb7.2 q] at h97; cases h97
  refine zq (z8 (O (zg R fo99_1 R ?_)))
  refine zx R yC R qN ?_
  refine E R R (zT R R R jO ?_)
  refine zH R (ev2 R R) qD qS (ih y (kid_mem hy) ka kl kc (d + 1) jO jO hsy.2 hsy.1.2) jF ?_
  refine E R R (zr R R R (zr R R R (V R R (V R R (I (ze (O (E R R (zZ R R R (I (zA R (fun h107 => ?_) (fun h107 => ?_))))))))))))
  ·try simp only [dq] at h107
   exact O (E R R (V R R (V R R (I (zo (zL (yv (zL (zL (yv (zL (x8 R R R ⟨by rw [hI.kid hy hn7, if_pos h107]; rfl, R, R⟩ qD qF))))))))))))
  try simp only [dq] at h107
  have hst : ChkI x d (i + 1) (n + (chkT y (d + 1)).1) := by unfold ChkI; rw [hI.kid hy hn7, if_neg (by simpa using h107)]
  refine zq (z8 (zt (E R R (E R R (zT R R R jO ?_)))))
  refine V R R (zu (zS (z8 (zt (zT R R R jO ?_)))))
  exact E R R (I (zV ⟨_, i + 1, ⟨by omega, by omega, hst⟩, R, R, R, R⟩ qI (.c 6 R <| .c 73 R <| zd _) (.c 1 R <| .c 2 R <| .c 71 R <| .c 72 R <| zd _) qD qD qF))
 try simp only [dq] at h74
 exact y4 (zG (zG (y5 (z8 (O (E R R (V R R (V R R (I (zo (x8 R R R ⟨by rw [hI.stop jO], R, R⟩ qD qF)))))))))))
theorem chk_spec (x : Tr) : ChkS x := Tr.ind (p := ChkS) (fun x ih a len cap d hd hc hs htl => chk_spec_step x ih a len cap d hd hc hs htl) x
end Cv
