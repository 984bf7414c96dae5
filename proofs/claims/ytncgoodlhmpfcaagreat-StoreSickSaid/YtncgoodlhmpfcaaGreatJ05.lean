/-
  The walks: SortStableFunc.
-/
import Derived.Test.YtncgoodlhmpfcaaGreatI05
set_option linter.all false
set_option maxHeartbeats 400000
set_option maxRecDepth 10000
namespace Cv
open Go Go.Proofs

theorem ins_spec {a : Option Addr} {len cap g : Nat} {caps : List Value} {cf : ET → ET → Int} {xs : List ET} (hC : Cmp cf) (hc : ∀ x y : ET, Spec Tryz.prog g ([.agg (eT x).toArray, .agg (eT y).toArray] ++ caps) [] [] (fun u D' M' => u = .int .i64 (cf x y) ∧ D' = [] ∧ M' = [])) {lo hi : Nat} (hb : len ≤ 1000000) (hlo : lo ≤ hi) (hhi : hi ≤ len) : Spec Tryz.prog 194 [.slice a len cap, .int .i64 (lo : Int), .int .i64 (hi : Int), fnV g caps] [] [own 4 99 a len cap ((xs).map eT)] (fun v D' M' => ∃ (ys : List ET), v = .tuple #[] ∧ (Kp cf xs ys) ∧ ((lo = 0 → hi = len → ∀ tag : ET → Nat, (∀ p q, p < q → q < xs.length → tag (gd xs p) < tag (gd xs q)) → Pw (Rt cf tag) ys len)) ∧ D' = [] ∧ M' = [own 4 99 a len cap ((ys).map eT)]) := by
 refine zv (n := 53) Tryz.func194 ?_
 intro σ D M
 refine xo qM (fun hl hcc => ?_)
 rw [List.length_map] at hl
 refine O (E R R (zT R R R jO ?_))
 rw [show (lo : Int) + 1 = ((lo + 1 : Nat) : Int) by omega]
 refine V R R (I (zD (y8 (fun K' D' M' μ => ∃ (i : Nat) (ys : List ET), ((lo + 1 ≤ i ∧ (i ≤ hi ∨ i = lo + 1)) ∧ Kp cf xs ys ∧ (lo = 0 → InsO cf xs ys i)) ∧ K' = [(8, .int .i64 i)] ∧ D' = [] ∧ M' = [own 4 99 a len cap ((ys).map eT)] ∧ μ = hi - i) (.c 0 R <| .c 1 R <| .c 2 R <| .c 3 R <| zd _) (⟨lo + 1, xs, ⟨by omega, .refl _, fun h0 => by subst h0; exact InsO.zero xs⟩, R, R, R, R⟩) (.c 8 R <| zd _) qD qS ?_)))
 rintro K1 D1 M1 m1 ⟨i, ys, ⟨⟨hi1, hi2⟩, hk, hO⟩, rfl, rfl, rfl, rfl⟩
 refine zM qA qA qA ?_
 have hyl := hk.sm.1
 refine ze (O (E R R (E R R (zW R R R (I (zA R (fun h14 => ?_) (fun h14 => ?_)))))))
 ·try simp only [dq] at h14
  refine T.ownNe qM jO (fun b o ha => ?_)
  subst ha
  refine zq (z8 (ze (zD (O (E R R (V R R (I (zD (y8 (fun K' D' M' μ => ∃ (j : Nat) (zs : List ET), ((lo ≤ j ∧ j ≤ i) ∧ InsP cf xs zs i j ∧ (lo = 0 → InsJ cf xs zs i j)) ∧ K' = [(9, .int .i64 j)] ∧ D' = [] ∧ M' = [own 4 99 (some ⟨b, o, none⟩) len cap ((zs).map eT)] ∧ μ = 2 * j) (.c 0 R <| .c 1 R <| .c 2 R <| .c 3 R <| .c 8 R <| zd _) (⟨i, ys, ⟨by omega, InsP.zero hk, fun h0 => (hO h0).start jO⟩, R, R, R, R⟩) (.c 9 R <| zd _) qD qS ?_)))))))))
  rintro K1 D1 M1 m1 ⟨j, zs, ⟨⟨hj0, hj⟩, hJ, hJ0⟩, rfl, rfl, rfl, rfl⟩
  refine zM qA qA qA ?_
  have hzl := hJ.sm.1
  refine ze (ze (xg qk qk (E R R (E R R (yy R R R (E R R (yT (t := 21) R (fun h1 => ?_) (fun h1 => ?_))))))))
  ·try simp only [dq] at h1
   refine zj 21 R R R (E R R (zj 21 R R R (E R R (zj 21 R R R (E R R (zj 21 R R R (yN (i := j) R yK sz99 R R jR qI ?_)))))))
   have hg1 : zs[j]? = some (gd zs j) := y9 jO
   refine zj 21 R R R (zx R ag99 R qN ?_)
   refine zj 21 R R R (E R R (zj 21 R R R (E R R (zj 21 R R R (yt R R R jO ?_)))))
   rw [show (j : Int) - 1 = ((j - 1 : Nat) : Int) by omega]
   refine zj 21 R R R (yN (i := j - 1) R yK sz99 R R jR qI ?_)
   have hg2 : zs[j - 1]? = some (gd zs (j - 1)) := y9 jO
   refine zj 21 R R R (zx R ag99 R qN ?_)
   refine zj 21 R R R (L.callVF R R (ev2 R R) qD qS (hc (gd zs j) (gd zs (j - 1))) jF ?_)
   refine zj 21 R R R (zW R R R (ym R R R (yY (z8 (zA R (fun h34 => ?_) (fun h34 => ?_))))))
   ·try simp only [dq] at h34
    refine zq (z8 (ze (zD ?_)))
    have hg0 : zs[j]? = some (gd zs (j)) := y9 jO
    have hg1 : zs[j - 1]? = some (gd zs (j - 1)) := y9 jO
    refine y7 (clsL [1, 1, 1, 1, 1, 1, 1, 1, 1, 0, 1, 1, 1, 0, 1, 2, 1, 2]) qk ?_
    refine z9 0 R R (E R R (z7 (z9 1 R R (E R R (z7 (z9 2 R R (E R R (z7 (z9 3 R R (E R R (z7 (z9 4 R R (yt R R R jO ?_)))))))))))))
    rw [show (j : Int) - 1 = ((j - 1 : Nat) : Int) by omega]
    refine z7 (z9 5 R R (E R R (z7 (z9 6 R R (E R R (z7 (z9 7 R R (yt R R R jO ?_))))))))
    rw [show (j : Int) - 1 = ((j - 1 : Nat) : Int) by omega]
    refine z7 (z9 8 R R (yN (i := j - 1) R yK sz99 R R jR qI ?_))
    refine z7 (z9 10 R R (E R R (z7 (z9 11 R R (E R R (z7 (z9 12 R R (yN (i := j) R yK sz99 R R jR qI ?_))))))))
    refine z7 (zY (i := 9) R R R R qk qk qk qk R qD qF ?_)
    refine zx R ag99 R qN ?_
    refine z7 (zY (i := 13) R R R R qk qk qk qk R qD qF ?_)
    refine zx R ag99 R qN ?_
    refine z7 (z9 14 R R (yN (i := j) R yK sz99 R R jR qI ?_))
    refine z7 (zi 15 R (xK (j) ag99 R jR R qL qO qP qI ?_))
    refine zh R qD ?_
    refine z9 16 R R (yN (i := j - 1) R yK sz99 R R jR qI ?_)
    refine z7 (zi 17 R (xK (j - 1) ag99 R jR R qL qO qP qI ?_))
    refine zh R qD ?_
    refine zN qk ?_
    refine zS (z8 (zt (E R R (yt R R R jO ?_))))
    rw [show (j : Int) - 1 = ((j - 1 : Nat) : Int) by omega]
    refine V R R (I (yp _ ((sw zs (j) (j - 1)).map eT) qP (by rw [sw, List.map_set, List.map_set]) ?_))
    exact zV ⟨j - 1, sw zs j (j - 1), ⟨by omega, hJ.swap jO jO h34, fun h0 => (hJ0 h0).swap jO hj jO h34⟩, R, R, R, R⟩ qI (.c 9 R <| zd _) (.c 0 R <| .c 1 R <| .c 2 R <| .c 3 R <| .c 8 R <| zd _) qD qD qF
   try simp only [dq] at h34
   have hstop0 : lo = 0 → 0 < j → ¬ cf (gd zs j) (gd zs (j - 1)) < 0 := fun _ _ => h34
   refine y4 (zG (zG (y5 (zS (z8 (zt (E R R (zT R R R jO ?_))))))))
   exact V R R (I (zV ⟨i + 1, _, ⟨by omega, hJ.end', fun h0 => InsJ.stop hC (hJ0 h0) jO jO (hstop0 h0)⟩, R, R, R, R⟩ qI (.c 8 R <| zd _) (.c 0 R <| .c 1 R <| .c 2 R <| .c 3 R <| zd _) qD qD qF))
  try simp only [dq] at h1
  have hstop0 : lo = 0 → 0 < j → ¬ cf (gd zs j) (gd zs (j - 1)) < 0 := fun h0 h1 => by omega
  refine zw 21 false R R R R R jD (zw 21 false R R R R R jD (zw 21 false R R R R R jD (zw 21 false R R R R R jD ?_)))
  have hg1 : zs[j]? = some (gd zs j) := y9 jO
  refine zw 21 false R R R R R jD (zw 21 false R R R R R jD (zw 21 false R R R R R jD (zw 21 false R R R R R jD (zw 21 false R R R R R jD ?_))))
  have hg2 : zs[j - 1]? = some (gd zs (j - 1)) := y9 jO
  refine zw 21 false R R R R R jD (zw 21 false R R R R R jD (zw 21 false R R R R R jD (yg R R R (yY (z8 (zR R R ?_))))))
  refine y4 (zG (zG (y5 (zS (z8 (zt (E R R (zT R R R jO ?_))))))))
  exact V R R (I (zV ⟨i + 1, _, ⟨by omega, hJ.end', fun h0 => InsJ.stop hC (hJ0 h0) jO jO (hstop0 h0)⟩, R, R, R, R⟩ qI (.c 8 R <| zd _) (.c 0 R <| .c 1 R <| .c 2 R <| .c 3 R <| zd _) qD qD qF))
 try simp only [dq] at h14
 exact y4 (zG (zG (y5 (yS (by simp) R ⟨ys, R, hk, fun h0 h1 tag ht p q hp hq => ((hO h0).ord tag ht).1 p q hp jO, R, R⟩ qD qF))))
end Cv
