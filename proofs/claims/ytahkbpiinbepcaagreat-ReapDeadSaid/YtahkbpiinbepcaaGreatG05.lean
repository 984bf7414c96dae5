/-
  The walks: Check.
-/
import Derived.Test.YtahkbpiinbepcaaGreatM05
import Derived.Test.YtahkbpiinbepcaaGreatProg
import Derived.KernelRfl
set_option linter.unusedVariables false
set_option linter.unusedSimpArgs false
set_option linter.unusedSectionVars false
set_option maxHeartbeats 400000
set_option maxRecDepth 10000
namespace Cv
open Go Go.Proofs

def ChkS (x : Tr) : Prop := ∀ (a : Option Addr) (len cap : Nat) (d : Nat), (1 ≤ d) → (d + x.count ≤ 1000000) → (TAll Sm x) → (x.t.length ≤ 20000) → Spec Tryz.prog 159 [.agg (iRow x a len cap).toArray, .int .i64 (d : Int)] [rtr x (eRow x a len cap)] [] (fun v D' M' => v = .tuple #[.int .i64 ((chkT x d).1 : Int), .int .i64 (chkT x d).2] ∧ D' = [] ∧ M' = [])
theorem chk_spec_step (x : Tr) (ih : ∀ y ∈ x.ks, ChkS y) (a : Option Addr) (len cap : Nat) (d : Nat) (hd : 1 ≤ d) (hc : d + x.count ≤ 1000000) (hs : TAll Sm x) (htl : x.t.length ≤ 20000) : Spec Tryz.prog 159 [.agg (iRow x a len cap).toArray, .int .i64 (d : Int)] [rtr x (eRow x a len cap)] [] (fun v D' M' => v = .tuple #[.int .i64 ((chkT x d).1 : Int), .int .i64 (chkT x d).2] ∧ D' = [] ∧ M' = []) := by
 refine zC (n := 114) Tryz.func159 ?_
 intro σ D M
 refine T.trOpenR qM (fun rows hkl hrl => ?_)
 subst hkl
 refine T.kidRows qM (fun hrw => ?_)
 have hz0 : (0 ≤ ibF x.t 0) ↔ (0 : UInt8) ∈ x.t := ibF_ge
 have hcx := x.count_eq
 have hcl := count_le_len x.ks
 refine z6 (z8 (yq rfl rfl rfl (fun b2 => ?_)))
 refine z9 rfl rfl (z9 rfl rfl (z7 (y1 (A := cl b2 133 [.int .i64 x.k, S x.t, .slice a x.ks.length cap]) qP ?_)))
 refine z4 (z6 (zr (z6 (yu (fun K' D' M' => ∃ (b1 : Bool), (b1 = true ↔ (x.k < 1 ∨ 4 < x.k)) ∧ K' = [(11, .bool b1)] ∧ D' = [] ∧ M' = []) (M0 := []) (.c 1 rfl <| .c 2 rfl <| za _) qS ?_ ?_))))
 ·skip
  refine z8 (zj rfl fo133_0 rfl ?_)
  refine zh rfl sc3 rfl qC ?_
  refine zQ rfl rfl rfl (z5 rfl rfl (yM (t := 15) rfl (fun h1 => ?_) (fun h1 => ?_)))
  ·try simp only [dq] at h1
   exact zg (dj := 15) (c := true) rfl rfl rfl rfl rfl jD (zg (dj := 15) (c := true) rfl rfl rfl rfl rfl jD (zg (dj := 15) (c := true) rfl rfl rfl rfl rfl jD (ye rfl rfl rfl (z9 rfl rfl (z7 (z4 (zK ⟨_, (by simp_all <;> omega), rfl, rfl, rfl⟩ (.c 11 rfl <| za _) (.c 1 rfl <| .c 2 rfl <| za _) qD qD qF)))))))
  ·try simp only [dq] at h1
   refine zf (dj := 15) rfl rfl rfl (zj rfl fo133_0 rfl ?_)
   refine zf (dj := 15) rfl rfl rfl (zh rfl sc3 rfl qC ?_)
   exact zf (dj := 15) rfl rfl rfl (yB rfl rfl rfl (y5 rfl rfl rfl (z9 rfl rfl (z7 (z4 (zK ⟨_, (by simp_all <;> omega), rfl, rfl, rfl⟩ (.c 11 rfl <| za _) (.c 1 rfl <| .c 2 rfl <| za _) qD qD qF))))))
 rintro _ _ _ ⟨b1, hb1, rfl, rfl, rfl⟩
 refine zF qA qA qA ?_
 refine z4 (zo rfl (fun h11 => ?_) (fun h11 => ?_))
 ·try simp only [dq] at h11
  exact z6 (z8 (z9 rfl rfl (z9 rfl rfl (z7 (z4 (zi (y3 (zD (xe rfl rfl rfl ⟨by rw [chk_bad (own0_1 (hb1.1 h11)) jD]; rfl, rfl, rfl⟩ qD qF)))))))))
 ·try simp only [dq] at h11
  have hn1 : ¬ (x.k < 1 ∨ 4 < x.k) := fun q => by rw [hb1.2 q] at h11; cases h11
  refine z6 (z6 (yu (fun K' D' M' => ∃ (b2 : Bool), (b2 = true ↔ (x.k ≠ 4 ∧ 0 < x.ks.length)) ∧ K' = [(20, .bool b2)] ∧ D' = [] ∧ M' = []) (M0 := []) (.c 1 rfl <| .c 2 rfl <| za _) qS ?_ ?_))
  ·skip
   refine z8 (zj rfl fo133_0 rfl ?_)
   refine zh rfl sc3 rfl qC ?_
   refine yx rfl rfl rfl (z5 rfl rfl (yM (t := 24) rfl (fun h2 => ?_) (fun h2 => ?_)))
   ·try simp only [dq] at h2
    refine zf (dj := 24) rfl rfl rfl (zj rfl fo133_2 rfl ?_)
    refine zf (dj := 24) rfl rfl rfl (zh rfl sc131 rfl qC ?_)
    exact zf (dj := 24) rfl rfl rfl (y2 rfl xF rfl (zf (dj := 24) rfl rfl rfl (yB rfl rfl rfl (ye rfl rfl rfl (z9 rfl rfl (z7 (z4 (zK ⟨_, (by simp_all <;> omega), rfl, rfl, rfl⟩ (.c 20 rfl <| za _) (.c 1 rfl <| .c 2 rfl <| za _) qD qD qF))))))))
   ·try simp only [dq] at h2
    exact zg (dj := 24) (c := false) rfl rfl rfl rfl rfl jD (zg (dj := 24) (c := false) rfl rfl rfl rfl rfl jD (zg (dj := 24) (c := false) rfl rfl rfl rfl rfl jD (zg (dj := 24) (c := false) rfl rfl rfl rfl rfl jD (y5 rfl rfl rfl (z9 rfl rfl (z7 (z4 (zK ⟨_, (by simp_all <;> omega), rfl, rfl, rfl⟩ (.c 20 rfl <| za _) (.c 1 rfl <| .c 2 rfl <| za _) qD qD qF))))))))
  rintro _ _ _ ⟨b2, hb2, rfl, rfl, rfl⟩
  refine zF qA qA qA ?_
  refine z4 (yu (fun K' D' M' => ∃ (b3 : Bool), (b3 = true ↔ ((x.k ≠ 4 ∧ 0 < x.ks.length) ∨ (x.k = 4 ∧ x.t ≠ []) ∨ (x.k = 3 ∧ x.t = []))) ∧ K' = [(20, .bool b3)] ∧ D' = [] ∧ M' = []) (M0 := []) (.c 1 rfl <| .c 2 rfl <| za _) qS ?_ ?_)
  ·skip
   refine zo rfl (fun h20 => ?_) (fun h20 => ?_)
   ·try simp only [dq] at h20
    exact zm (z4 (zK ⟨_, (by simp_all <;> omega), rfl, rfl, rfl⟩ (.c 20 rfl <| za _) (.c 1 rfl <| .c 2 rfl <| za _) qD qD qF))
   ·try simp only [dq] at h20
    try (have hn2 : ¬ ((x.k ≠ 4 ∧ decide (0 < x.ks.length) = true) ∨ (x.k = 4 ∧ x.t ≠ []) ∨ (x.k = 3 ∧ x.t = [])) := fun q => by rw [hb3.2 (by simpa using q)] at h20; cases h20)
    refine z6 (yu (fun K' D' M' => ∃ (b4 : Bool), (b4 = true ↔ (x.k = 4 ∧ x.t ≠ [])) ∧ K' = [(20, .bool b4)] ∧ D' = [] ∧ M' = []) (M0 := []) (.c 1 rfl <| .c 2 rfl <| za _) qS ?_ ?_)
    ·skip
     refine z8 (zj rfl fo133_0 rfl ?_)
     refine zh rfl sc3 rfl qC ?_
     refine yj rfl rfl rfl (z5 rfl rfl (yM (t := 33) rfl (fun h3 => ?_) (fun h3 => ?_)))
     ·try simp only [dq] at h3
      refine zf (dj := 33) rfl rfl rfl (zj rfl fo133_1 rfl ?_)
      refine zf (dj := 33) rfl rfl rfl (zh rfl sc9 rfl qC ?_)
      refine zf (dj := 33) rfl rfl rfl (L.neS rfl rfl rfl ?_)
      exact ye rfl rfl rfl (z9 rfl rfl (z7 (z4 (zK ⟨_, (by simp_all <;> omega), rfl, rfl, rfl⟩ (.c 20 rfl <| za _) (.c 1 rfl <| .c 2 rfl <| za _) qD qD qF))))
     ·try simp only [dq] at h3
      exact zg (dj := 33) (c := false) rfl rfl rfl rfl rfl jD (zg (dj := 33) (c := false) rfl rfl rfl rfl rfl jD (zg (dj := 33) (c := false) rfl rfl rfl rfl rfl jD (y5 rfl rfl rfl (z9 rfl rfl (z7 (z4 (zK ⟨_, (by simp_all <;> omega), rfl, rfl, rfl⟩ (.c 20 rfl <| za _) (.c 1 rfl <| .c 2 rfl <| za _) qD qD qF)))))))
    rintro _ _ _ ⟨b4, hb4, rfl, rfl, rfl⟩
    refine zF qA qA qA ?_
    refine z4 (zo rfl (fun h20 => ?_) (fun h20 => ?_))
    ·try simp only [dq] at h20
     exact zm (z4 (zK ⟨_, (by simp_all <;> omega), rfl, rfl, rfl⟩ (.c 20 rfl <| za _) (.c 1 rfl <| .c 2 rfl <| za _) qD qD qF))
    ·try simp only [dq] at h20
     try (have hn2 : ¬ ((x.k ≠ 4 ∧ decide (0 < x.ks.length) = true) ∨ (x.k = 4 ∧ x.t ≠ []) ∨ (x.k = 3 ∧ x.t = [])) := fun q => by rw [hb3.2 (by simpa using q)] at h20; cases h20)
     refine z8 (zj rfl fo133_0 rfl ?_)
     refine zh rfl sc3 rfl qC ?_
     refine yj rfl rfl rfl (z5 rfl rfl (yM (t := 41) rfl (fun h4 => ?_) (fun h4 => ?_)))
     ·try simp only [dq] at h4
      refine zf (dj := 41) rfl rfl rfl (zj rfl fo133_1 rfl ?_)
      refine zf (dj := 41) rfl rfl rfl (zh rfl sc9 rfl qC ?_)
      refine zf (dj := 41) rfl rfl rfl (L.eqS rfl rfl rfl ?_)
      exact ye rfl rfl rfl (z9 rfl rfl (z7 (z4 (zK ⟨_, (by simp_all <;> omega), rfl, rfl, rfl⟩ (.c 20 rfl <| za _) (.c 1 rfl <| .c 2 rfl <| za _) qD qD qF))))
     ·try simp only [dq] at h4
      exact zg (dj := 41) (c := false) rfl rfl rfl rfl rfl jD (zg (dj := 41) (c := false) rfl rfl rfl rfl rfl jD (zg (dj := 41) (c := false) rfl rfl rfl rfl rfl jD (y5 rfl rfl rfl (z9 rfl rfl (z7 (z4 (zK ⟨_, (by simp_all <;> omega), rfl, rfl, rfl⟩ (.c 20 rfl <| za _) (.c 1 rfl <| .c 2 rfl <| za _) qD qD qF)))))))
  rintro _ _ _ ⟨b3, hb3, rfl, rfl, rfl⟩
  refine zF qA qA qA ?_
  refine z4 (zo rfl (fun h20 => ?_) (fun h20 => ?_))
  ·try simp only [dq] at h20
   exact z6 (z8 (z9 rfl rfl (z9 rfl rfl (z7 (z4 (zi (y3 (zD (xe rfl rfl rfl ⟨by rw [chk_bad (own0_2 hn1 (by simpa using hb3.1 h20)) jD]; rfl, rfl, rfl⟩ qD qF)))))))))
  ·try simp only [dq] at h20
   try (have hn2 : ¬ ((x.k ≠ 4 ∧ decide (0 < x.ks.length) = true) ∨ (x.k = 4 ∧ x.t ≠ []) ∨ (x.k = 3 ∧ x.t = [])) := fun q => by rw [hb3.2 (by simpa using q)] at h20; cases h20)
   refine z6 (yu (fun K' D' M' => ∃ (b5 : Bool), (b5 = true ↔ (x.k = 3 ∧ (24 < x.t.length ∨ (0 : UInt8) ∈ x.t))) ∧ K' = [(46, .bool b5)] ∧ D' = [] ∧ M' = []) (M0 := []) (.c 1 rfl <| .c 2 rfl <| za _) qS ?_ ?_)
   ·skip
    refine z8 (zj rfl fo133_0 rfl ?_)
    refine zh rfl sc3 rfl qC ?_
    refine yj rfl rfl rfl (z5 rfl rfl (yM (t := 50) rfl (fun h5 => ?_) (fun h5 => ?_)))
    ·try simp only [dq] at h5
     refine zf (dj := 50) rfl rfl rfl (zj rfl fo133_1 rfl ?_)
     refine zf (dj := 50) rfl rfl rfl (zh rfl sc9 rfl qC ?_)
     refine zf (dj := 50) rfl rfl rfl (xj rfl yy rfl (zf (dj := 50) rfl rfl rfl (yB rfl rfl rfl (zf (dj := 50) rfl rfl rfl (z5 rfl rfl (yM (t := 55) rfl (fun h6 => ?_) (fun h6 => ?_)))))))
     ·try simp only [dq] at h6
      exact zg (dj := 55) (c := true) rfl rfl rfl rfl rfl jD (zg (dj := 55) (c := true) rfl rfl rfl rfl rfl jD (zg (dj := 55) (c := true) rfl rfl rfl rfl rfl jD (zf (dj := 50) rfl rfl rfl (ye rfl rfl rfl (ye rfl rfl rfl (z9 rfl rfl (z7 (z4 (zK ⟨_, (by simp_all <;> omega), rfl, rfl, rfl⟩ (.c 46 rfl <| za _) (.c 1 rfl <| .c 2 rfl <| za _) qD qD qF)))))))))
     ·try simp only [dq] at h6
      refine zf (dj := 55) rfl rfl rfl (zj rfl fo133_1 rfl ?_)
      refine zf (dj := 55) rfl rfl rfl (zh rfl sc9 rfl qC ?_)
      refine zf (dj := 55) rfl rfl rfl (zW rfl (ev2 rfl rfl) qD qS (scont_spec (l := x.t) (c := 0)) jF ?_)
      exact zf (dj := 50) rfl rfl rfl (y5 rfl rfl rfl (ye rfl rfl rfl (z9 rfl rfl (z7 (z4 (zK ⟨_, (by simp_all <;> omega), rfl, rfl, rfl⟩ (.c 46 rfl <| za _) (.c 1 rfl <| .c 2 rfl <| za _) qD qD qF))))))
    ·try simp only [dq] at h5
     exact zg (dj := 50) (c := false) rfl rfl rfl rfl rfl jD (zg (dj := 50) (c := false) rfl rfl rfl rfl rfl jD (zg (dj := 50) (c := false) rfl rfl rfl rfl rfl jD (zg (dj := 50) (c := false) rfl rfl rfl rfl rfl jD (zg (dj := 50) (c := false) rfl rfl rfl rfl rfl jD (xq (dj := 55) rfl rfl rfl rfl rfl (xq (dj := 55) rfl rfl rfl rfl rfl (xq (dj := 55) rfl rfl rfl rfl rfl (zg (dj := 50) (c := false) rfl rfl rfl rfl rfl jD (y5 rfl rfl rfl (z9 rfl rfl (z7 (z4 (zK ⟨_, (by simp_all <;> omega), rfl, rfl, rfl⟩ (.c 46 rfl <| za _) (.c 1 rfl <| .c 2 rfl <| za _) qD qD qF)))))))))))))
   rintro _ _ _ ⟨b5, hb5, rfl, rfl, rfl⟩
   refine zF qA qA qA ?_
   refine z4 (zo rfl (fun h46 => ?_) (fun h46 => ?_))
   ·try simp only [dq] at h46
    exact z6 (z8 (z9 rfl rfl (z9 rfl rfl (z7 (z4 (zi (y3 (zD (xe rfl rfl rfl ⟨by rw [chk_bad (own0_3 hn1 hn2 (hb5.1 h46)) jD]; rfl, rfl, rfl⟩ qD qF)))))))))
   ·try simp only [dq] at h46
    have hn3 : ¬ (x.k = 3 ∧ (24 < x.t.length ∨ (0 : UInt8) ∈ x.t)) := fun q => by rw [hb5.2 q] at h46; cases h46
    refine z6 (yu (fun K' D' M' => ∃ (b6 : Bool), (b6 = true ↔ (8192 < x.t.length ∨ 8 < d)) ∧ K' = [(61, .bool b6)] ∧ D' = [] ∧ M' = []) (M0 := []) (.c 1 rfl <| .c 2 rfl <| za _) qS ?_ ?_)
    ·skip
     refine z8 (zj rfl fo133_1 rfl ?_)
     refine zh rfl sc9 rfl qC ?_
     refine xj rfl yy rfl (yB rfl rfl rfl (z5 rfl rfl (yM (t := 66) rfl (fun h7 => ?_) (fun h7 => ?_))))
     ·try simp only [dq] at h7
      exact zg (dj := 66) (c := true) rfl rfl rfl rfl rfl jD (zg (dj := 66) (c := true) rfl rfl rfl rfl rfl jD (ye rfl rfl rfl (z9 rfl rfl (z7 (z4 (zK ⟨_, (by simp_all <;> omega), rfl, rfl, rfl⟩ (.c 61 rfl <| za _) (.c 1 rfl <| .c 2 rfl <| za _) qD qD qF))))))
     ·try simp only [dq] at h7
      exact zf (dj := 66) rfl rfl rfl (z5 rfl rfl (zf (dj := 66) rfl rfl rfl (yB rfl rfl rfl (y5 rfl rfl rfl (z9 rfl rfl (z7 (z4 (zK ⟨_, (by simp_all <;> omega), rfl, rfl, rfl⟩ (.c 61 rfl <| za _) (.c 1 rfl <| .c 2 rfl <| za _) qD qD qF))))))))
    rintro _ _ _ ⟨b6, hb6, rfl, rfl, rfl⟩
    refine zF qA qA qA ?_
    refine z4 (zo rfl (fun h61 => ?_) (fun h61 => ?_))
    ·try simp only [dq] at h61
     exact z6 (z8 (z9 rfl rfl (z9 rfl rfl (z7 (z4 (zi (y3 (zD (xe rfl rfl rfl ⟨by rw [chk_bad (own0_4 hn1 hn2 hn3 (hb6.1 h61)) jD]; rfl, rfl, rfl⟩ qD qF)))))))))
    ·try simp only [dq] at h61
     have hn4 : ¬ (8192 < x.t.length ∨ 8 < d) := fun q => by rw [hb6.2 q] at h61; cases h61
     refine zm (zI (z4 (z6 (z8 (z9 rfl rfl (z7 (z4 (z6 (z6 (z8 (zj rfl fo133_2 rfl ?_)))))))))))
     refine zh rfl sc131 rfl qC ?_
     refine y2 rfl xF rfl (z5 rfl rfl (z7 (z4 (zr (zX (fun K' D' M' μ => ∃ (n i : Nat), (i ≤ x.ks.length ∧ n ≤ 1 + countL (x.ks.take i) ∧ ChkI x d i n) ∧ K' = [(6, .int .i64 (n : Int)), (73, .int .i64 i)] ∧ D' = [] ∧ M' = [] ∧ μ = x.ks.length - i) (.c 1 rfl <| .c 2 rfl <| .c 71 rfl <| .c 72 rfl <| za _) (⟨1, 0, ⟨by omega, by simp [countL], ChkI.zero (own0_5 hn1 hn2 hn3 hn4)⟩, rfl, rfl, rfl, rfl⟩) (.c 6 rfl <| .c 73 rfl <| za _) qD qS ?_)))))
     rintro K1 D1 M1 m1 ⟨n, i, ⟨hi, hn, hI⟩, rfl, rfl, rfl, rfl⟩
     refine zF qA qA qA ?_
     refine z6 (z8 (zQ rfl rfl rfl (z7 (z4 (z6 (zo rfl (fun h74 => ?_) (fun h74 => ?_)))))))
     ·try simp only [dq] at h74
      refine zm (z4 (z6 (zr (z6 ?_))))
      have hy : x.ks[i]? = some (gd x.ks i) := zJ jO
      obtain ⟨y, hyy⟩ : ∃ y, y = gd x.ks i := ⟨_, rfl⟩
      rw [← hyy] at hy
      refine T.kidOpen qM hy (fun ka kl kc hr => ?_)
      have hcs := countL_step hy
      have hcy := count_pos y
      have hsy := hs.kid (kid_mem hy)
      have hcle := chk_le y (d + 1) jO
      refine z8 (z5 rfl rfl (yI (i := i) rfl xF sz255 rfl rfl qM jR qG (fun b76 o76 => ?_)))
      refine zp rfl ag255 rfl qN ?_
      refine zL rfl ze255 (fun b8 => ?_)
      refine z9 rfl rfl (zE ag255 rfl rfl qL qO qU qW ?_)
      refine z7 (T.rslAddr qM (show rows ≠ [] from fun e => by rw [e] at hrl; simp at hrl; omega) (fun bo oo ha => ?_))
      subst ha
      refine z4 (z6 (z6 (yu (fun K' D' M' => ∃ (b7 : Bool), (b7 = true ↔ (nameB y.n = false ∨ (0 < i ∧ bless (gd x.ks (i - 1)).n y.n = false))) ∧ K' = [(97, .bool b7)] ∧ D' = [] ∧ M' = []) (M0 := []) (.c 1 rfl <| .c 2 rfl <| .c 6 rfl <| .c 8 rfl <| .c 71 rfl <| .c 72 rfl <| .c 73 rfl <| za _) qS ?_ ?_)))
      ·skip
       refine yC qk qk (zj rfl fo255_0 rfl ?_)
       refine zh rfl sc9 rfl qC ?_
       refine zW rfl (ev1 rfl) qD qS (name_spec (s := y.n) (by have := hsy.1.1; omega)) jF ?_
       refine yX rfl rfl (z5 rfl rfl (yM (t := 82) rfl (fun h8 => ?_) (fun h8 => ?_)))
       ·try simp only [dq] at h8
        refine zg (dj := 82) (c := true) rfl rfl rfl rfl rfl jD (zg (dj := 82) (c := true) rfl rfl rfl rfl rfl jD (zg (dj := 82) (c := true) rfl rfl rfl rfl rfl jD (xq (dj := 85) rfl rfl rfl rfl rfl (xq (dj := 85) rfl rfl rfl rfl rfl (xq (dj := 85) rfl rfl rfl rfl rfl (xq (dj := 85) rfl rfl rfl rfl rfl ?_))))))
        obtain ⟨pa, pl, pc, hpr⟩ := hrw (i - 1) (gd x.ks (i - 1)) (zJ jO)
        exact xq (dj := 85) rfl rfl rfl rfl rfl (xq (dj := 85) rfl rfl rfl rfl rfl (xq (dj := 85) rfl rfl rfl rfl rfl (xq (dj := 85) rfl rfl rfl rfl rfl (xq (dj := 85) rfl rfl rfl rfl rfl (xq (dj := 85) rfl rfl rfl rfl rfl (zg (dj := 82) (c := true) rfl rfl rfl rfl rfl jD (ye rfl rfl rfl (yA (z4 (zK ⟨_, (by simp_all <;> omega), rfl, rfl, rfl⟩ (.c 97 rfl <| za _) (.c 1 rfl <| .c 2 rfl <| .c 6 rfl <| .c 8 rfl <| .c 71 rfl <| .c 72 rfl <| .c 73 rfl <| za _) qD qD qF))))))))))
       ·try simp only [dq] at h8
        refine zf (dj := 82) rfl rfl rfl (z5 rfl rfl (zf (dj := 82) rfl rfl rfl (yB rfl rfl rfl (zf (dj := 82) rfl rfl rfl (z5 rfl rfl (yM (t := 85) rfl (fun h9 => ?_) (fun h9 => ?_)))))))
        ·try simp only [dq] at h9
         refine zf (dj := 85) rfl rfl rfl (zj rfl fo133_2 rfl ?_)
         refine zf (dj := 85) rfl rfl rfl (zh rfl sc131 rfl qC ?_)
         refine zf (dj := 85) rfl rfl rfl (z5 rfl rfl (zf (dj := 85) rfl rfl rfl (y7 rfl rfl rfl jO ?_)))
         obtain ⟨pa, pl, pc, hpr⟩ := hrw (i - 1) (gd x.ks (i - 1)) (zJ jO)
         refine zf (dj := 85) rfl rfl rfl (L.idxR (i := i - 1) rfl xF sz255 rfl rfl qM jR qI qG ?_)
         refine zf (dj := 85) rfl rfl rfl (zj rfl fo255_0 rfl ?_)
         refine zf (dj := 85) rfl rfl rfl (zh rfl sc9 rfl qC ?_)
         refine zf (dj := 85) rfl rfl rfl (zj rfl fo255_0 rfl ?_)
         refine zf (dj := 85) rfl rfl rfl (zh rfl sc9 rfl qC ?_)
         refine zf (dj := 85) rfl rfl rfl (L.geS rfl rfl rfl ?_)
         exact zf (dj := 82) rfl rfl rfl (ye rfl rfl rfl (y5 rfl rfl rfl (yA (z4 (zK ⟨_, (by simp_all <;> omega), rfl, rfl, rfl⟩ (.c 97 rfl <| za _) (.c 1 rfl <| .c 2 rfl <| .c 6 rfl <| .c 8 rfl <| .c 71 rfl <| .c 72 rfl <| .c 73 rfl <| za _) qD qD qF)))))
        ·try simp only [dq] at h9
         refine zg (dj := 85) (c := false) rfl rfl rfl rfl rfl jD (zg (dj := 85) (c := false) rfl rfl rfl rfl rfl jD (zg (dj := 85) (c := false) rfl rfl rfl rfl rfl jD (zg (dj := 85) (c := false) rfl rfl rfl rfl rfl jD ?_)))
         obtain ⟨pa, pl, pc, hpr⟩ := hrw (i - 1) (gd x.ks (i - 1)) (zJ jO)
         exact zg (dj := 85) (c := false) rfl rfl rfl rfl rfl jD (zg (dj := 85) (c := false) rfl rfl rfl rfl rfl jD (zg (dj := 85) (c := false) rfl rfl rfl rfl rfl jD (zg (dj := 85) (c := false) rfl rfl rfl rfl rfl jD (zg (dj := 85) (c := false) rfl rfl rfl rfl rfl jD (zg (dj := 85) (c := false) rfl rfl rfl rfl rfl jD (zf (dj := 82) rfl rfl rfl (y5 rfl rfl rfl (y5 rfl rfl rfl (yA (z4 (zK ⟨_, (by simp_all <;> omega), rfl, rfl, rfl⟩ (.c 97 rfl <| za _) (.c 1 rfl <| .c 2 rfl <| .c 6 rfl <| .c 8 rfl <| .c 71 rfl <| .c 72 rfl <| .c 73 rfl <| za _) qD qD qF)))))))))))
      rintro _ _ _ ⟨b7, hb7, rfl, rfl, rfl⟩
      refine zF qA qA qA ?_
      refine z4 (zo rfl (fun h97 => ?_) (fun h97 => ?_))
      ·try simp only [dq] at h97
       exact z6 (z8 (z9 rfl rfl (z9 rfl rfl (z7 (z4 (zi (zD (y3 (zD (zD (y3 (zD (xe rfl rfl rfl ⟨by rw [hI.bad hy (hb7.1 h97)]; rfl, rfl, rfl⟩ qD qF)))))))))))))
      ·try simp only [dq] at h97
       have hn7 : ¬ (nameB y.n = false ∨ (0 < i ∧ bless (gd x.ks (i - 1)).n y.n = false)) := fun q => by rw [hb7.2 q] at h97; cases h97
       refine zm (z4 (z6 (z8 (zj rfl fo255_1 rfl ?_))))
       refine zp rfl ag133 rfl qN ?_
       refine z5 rfl rfl (zH rfl rfl rfl jO ?_)
       refine zW rfl (ev2 rfl rfl) qD qS (ih y (kid_mem hy) ka kl kc (d + 1) jO jO hsy.2 hsy.1.2) jF ?_
       refine z5 rfl rfl (zG rfl rfl rfl (zG rfl rfl rfl (z9 rfl rfl (z9 rfl rfl (z7 (z4 (z6 (z6 (z8 (z5 rfl rfl (yx rfl rfl rfl (z7 (z4 (zo rfl (fun h107 => ?_) (fun h107 => ?_)))))))))))))))
       ·try simp only [dq] at h107
        exact z6 (z8 (z5 rfl rfl (z9 rfl rfl (z9 rfl rfl (z7 (z4 (zi (zD (y3 (zD (zD (y3 (zD (xe rfl rfl rfl ⟨by rw [hI.kid hy hn7, if_pos h107]; rfl, rfl, rfl⟩ qD qF))))))))))))))
       ·try simp only [dq] at h107
        have hst : ChkI x d (i + 1) (n + (chkT y (d + 1)).1) := by unfold ChkI; rw [hI.kid hy hn7, if_neg (by simpa using h107)]
        refine zm (z4 (z8 (z5 rfl rfl (z5 rfl rfl (zH rfl rfl rfl jO ?_)))))
        refine z9 rfl rfl (z7 (zI (z4 (z8 (zH rfl rfl rfl jO ?_)))))
        exact z5 rfl rfl (z7 (z4 (zM ⟨_, i + 1, ⟨by omega, by omega, hst⟩, rfl, rfl, rfl, rfl⟩ qI (.c 6 rfl <| .c 73 rfl <| za _) (.c 1 rfl <| .c 2 rfl <| .c 71 rfl <| .c 72 rfl <| za _) qD qD qF)))
     ·try simp only [dq] at h74
      exact zR (zq (zq (zS (z4 (z6 (z8 (z5 rfl rfl (z9 rfl rfl (z9 rfl rfl (z7 (z4 (zi (xe rfl rfl rfl ⟨by rw [hI.stop jO], rfl, rfl⟩ qD qF)))))))))))))
theorem chk_spec (x : Tr) : ChkS x := Tr.ind (p := ChkS) (fun x ih a len cap d hd hc hs htl => chk_spec_step x ih a len cap d hd hc hs htl) x
end Cv
