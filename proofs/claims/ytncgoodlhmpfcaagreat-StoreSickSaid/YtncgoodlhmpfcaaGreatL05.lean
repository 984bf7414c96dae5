/-
  The walks: symmetric merges.
-/
import Derived.Test.YtncgoodlhmpfcaaGreatJ05
set_option linter.all false
set_option maxHeartbeats 400000
set_option maxRecDepth 10000
namespace Cv
open Go Go.Proofs

theorem swr_spec {a : Option Addr} {len cap g : Nat} {caps : List Value} {xs : List ET} {p q k : Nat} (hb : len ≤ 1000000) (hp : p + k ≤ len) (hq : q + k ≤ len) : Spec Tryz.prog 236 [.slice a len cap, .int .i64 (p : Int), .int .i64 (q : Int), .int .i64 (k : Int), fnV g caps] [] [own 4 99 a len cap ((xs).map eT)] (fun v D' M' => ∃ (ys : List ET), v = .tuple #[] ∧ (SM xs ys) ∧ D' = [] ∧ M' = [own 4 99 a len cap ((ys).map eT)]) := by
 refine zv (n := 38) Tryz.func236 ?_
 intro σ D M
 refine xo qM (fun hl hcc => ?_)
 rw [List.length_map] at hl
 refine O (V R R (I (zD (y8 (fun K' D' M' μ => ∃ (i : Nat) (zs : List ET), (i ≤ k ∧ SM xs zs) ∧ K' = [(10, .int .i64 i)] ∧ D' = [] ∧ M' = [own 4 99 a len cap ((zs).map eT)] ∧ μ = k - i) (.c 0 R <| .c 1 R <| .c 2 R <| .c 3 R <| zd _) (⟨0, xs, ⟨by omega, .refl _⟩, R, R, R, R⟩) (.c 10 R <| zd _) qD qS ?_))))
 rintro K1 D1 M1 m1 ⟨i, zs, ⟨hi, hs⟩, rfl, rfl, rfl, rfl⟩
 refine zM qA qA qA ?_
 have hzl := hs.1
 refine ze (O (E R R (E R R (zW R R R (I (zA R (fun h13 => ?_) (fun h13 => ?_)))))))
 ·try simp only [dq] at h13
  refine T.ownNe qM jO (fun b o ha => ?_)
  subst ha
  refine zq (z8 (ze (zD ?_)))
  have hg0 : zs[p + i]? = some (gd zs (p + i)) := y9 jO
  have hg1 : zs[q + i]? = some (gd zs (q + i)) := y9 jO
  refine y7 (clsL [1, 1, 1, 1, 1, 1, 1, 1, 1, 1, 1, 1, 1, 0, 1, 1, 1, 1, 1, 0, 1, 2, 1, 2]) qk ?_
  refine z9 0 R R (E R R (z7 (z9 1 R R (E R R (z7 (z9 2 R R (E R R (z7 (z9 3 R R (zT R R R jO ?_))))))))))
  refine z7 (z9 4 R R (E R R (z7 (z9 5 R R (E R R (z7 (z9 6 R R (E R R (z7 (z9 7 R R (zT R R R jO ?_)))))))))))
  refine z7 (z9 8 R R (E R R (z7 (z9 9 R R (E R R (z7 (z9 10 R R (E R R (z7 (z9 11 R R (zT R R R jO ?_)))))))))))
  refine z7 (z9 12 R R (yN (i := q + i) R yK sz99 R R jR qI ?_))
  refine z7 (z9 14 R R (E R R (z7 (z9 15 R R (E R R (z7 (z9 16 R R (E R R (z7 (z9 17 R R (zT R R R jO ?_)))))))))))
  refine z7 (z9 18 R R (yN (i := p + i) R yK sz99 R R jR qI ?_))
  refine z7 (zY (i := 13) R R R R qk qk qk qk R qD qF ?_)
  refine zx R ag99 R qN ?_
  refine z7 (zY (i := 19) R R R R qk qk qk qk R qD qF ?_)
  refine zx R ag99 R qN ?_
  refine z7 (z9 20 R R (yN (i := p + i) R yK sz99 R R jR qI ?_))
  refine z7 (zi 21 R (xK (p + i) ag99 R jR R qL qO qP qI ?_))
  refine zh R qD ?_
  refine z9 22 R R (yN (i := q + i) R yK sz99 R R jR qI ?_)
  refine z7 (zi 23 R (xK (q + i) ag99 R jR R qL qO qP qI ?_))
  refine zh R qD ?_
  refine zN qk ?_
  refine zS (z8 (zt (E R R (zT R R R jO ?_))))
  refine V R R (I (yp _ ((sw zs (p + i) (q + i)).map eT) qP (by rw [sw, List.map_set, List.map_set]) ?_))
  exact zV ⟨i + 1, sw zs (p + i) (q + i), ⟨by omega, hs.trans (sw_sm jO jO)⟩, R, R, R, R⟩ qI (.c 10 R <| zd _) (.c 0 R <| .c 1 R <| .c 2 R <| .c 3 R <| zd _) qD qD qF
 try simp only [dq] at h13
 exact y4 (zG (zG (y5 (yS (by simp) R ⟨zs, R, hs, R, R⟩ qD qF))))
theorem rot_spec {a : Option Addr} {len cap g : Nat} {caps : List Value} {xs : List ET} {lo m hi : Nat} (hb : len ≤ 1000000) (h1 : lo < m) (h2 : m < hi) (h3 : hi ≤ len) : Spec Tryz.prog 226 [.slice a len cap, .int .i64 (lo : Int), .int .i64 (m : Int), .int .i64 (hi : Int), fnV g caps] [] [own 4 99 a len cap ((xs).map eT)] (fun v D' M' => ∃ (ys : List ET), v = .tuple #[] ∧ (SM xs ys) ∧ D' = [] ∧ M' = [own 4 99 a len cap ((ys).map eT)]) := by
 refine zv (n := 58) Tryz.func226 ?_
 intro σ D M
 refine xo qM (fun hl hcc => ?_)
 rw [List.length_map] at hl
 refine O (E R R (E R R (yt R R R jO ?_)))
 rw [show (m : Int) - (lo : Int) = ((m - lo : Nat) : Int) by omega]
 refine V R R (I (O (E R R (E R R (yt R R R jO ?_)))))
 rw [show (hi : Int) - (m : Int) = ((hi - m : Nat) : Int) by omega]
 refine V R R (I (ze (zD (y8 (fun K' D' M' μ => ∃ (i j : Nat) (zs : List ET), ((0 < i ∧ 0 < j ∧ i ≤ m - lo ∧ j ≤ hi - m) ∧ SM xs zs) ∧ K' = [(10, .int .i64 i), (11, .int .i64 j)] ∧ D' = [] ∧ M' = [own 4 99 a len cap ((zs).map eT)] ∧ μ = i + j) (.c 0 R <| .c 2 R <| .c 4 R <| zd _) (⟨m - lo, hi - m, xs, ⟨by omega, .refl _⟩, R, R, R, R⟩) (.c 10 R <| .c 11 R <| zd _) qD qS ?_))))
 rintro K1 D1 M1 m1 ⟨i, j, zs, ⟨hij, hs⟩, rfl, rfl, rfl, rfl⟩
 refine zM qA qA qA ?_
 have hzl := hs.1
 refine ze (O (E R R (E R R (zZ R R R (I (zA R (fun h20 => ?_) (fun h20 => ?_)))))))
 ·try simp only [dq] at h20
  refine zq (z8 (zD (O (E R R (E R R (yy R R R (I (zA R (fun h23 => ?_) (fun h23 => ?_)))))))))
  ·try simp only [dq] at h23
   refine O (E R R (E R R (E R R (yt R R R jO ?_))))
   rw [show (m : Int) - (i : Int) = ((m - i : Nat) : Int) by omega]
   refine E R R (E R R (E R R (zp R (ev5 R R R R R) qD qS (swr_spec (p := m - i) (q := m) (k := j) hb jO jO) ?_)))
   rintro _ _ _ ⟨ys, rfl, hs2, rfl, rfl⟩
   refine zm qA qA ?_
   refine I (zt (E R R (E R R (yt R R R jO ?_))))
   rw [show (i : Int) - (j : Int) = ((i - j : Nat) : Int) by omega]
   exact V R R (zu (zS (z8 (zV ⟨i - j, j, _, ⟨by omega, hs.trans hs2⟩, R, R, R, R⟩ qI (.c 10 R <| .c 11 R <| zd _) (.c 0 R <| .c 2 R <| .c 4 R <| zd _) qD qD qF))))
  try simp only [dq] at h23
  refine O (E R R (E R R (E R R (yt R R R jO ?_))))
  rw [show (m : Int) - (i : Int) = ((m - i : Nat) : Int) by omega]
  refine E R R (E R R (zT R R R jO ?_))
  refine E R R (yt R R R jO ?_)
  rw [show (m : Int) + (j : Int) - (i : Int) = ((m + j - i : Nat) : Int) by omega]
  refine E R R (E R R (zp R (ev5 R R R R R) qD qS (swr_spec (p := m - i) (q := m + j - i) (k := i) hb jO jO) ?_))
  rintro _ _ _ ⟨ys, rfl, hs2, rfl, rfl⟩
  refine zm qA qA ?_
  refine I (zt (E R R (E R R (yt R R R jO ?_))))
  rw [show (j : Int) - (i : Int) = ((j - i : Nat) : Int) by omega]
  exact V R R (zu (zS (z8 (zV ⟨i, j - i, _, ⟨by omega, hs.trans hs2⟩, R, R, R, R⟩ qI (.c 10 R <| .c 11 R <| zd _) (.c 0 R <| .c 2 R <| .c 4 R <| zd _) qD qD qF))))
 try simp only [dq] at h20
 refine y4 (zG (zG (y5 (z8 (zt (E R R (E R R (E R R (yt R R R jO ?_)))))))))
 rw [show (m : Int) - (i : Int) = ((m - i : Nat) : Int) by omega]
 refine E R R (E R R (E R R (zp R (ev5 R R R R R) qD qS (swr_spec (p := m - i) (q := m) (k := i) hb jO jO) ?_)))
 rintro _ _ _ ⟨ys, rfl, hs2, rfl, rfl⟩
 refine zm qA qA ?_
 exact zu (yS (by simp) R ⟨_, R, hs.trans hs2, R, R⟩ qD qF)
theorem half_eq (i j : Nat) : Int.fdiv ((i : Int) + (j : Int)) (2 ^ (min (1 : Int).toNat IntKind.u64.bits)) = (((i + j) / 2 : Nat) : Int) := by
 show Int.fdiv ((i : Int) + (j : Int)) 2 = _
 rw [Int.fdiv_eq_ediv_of_nonneg _ jO]; omega
def SymQ (a : Option Addr) (len cap g : Nat) (caps : List Value) (cf : ET → ET → Int) (lo m hi : Nat) (xs : List ET) : Prop := Spec Tryz.prog 195 [.slice a len cap, .int .i64 (lo : Int), .int .i64 (m : Int), .int .i64 (hi : Int), fnV g caps] [] [own 4 99 a len cap ((xs).map eT)] (fun v D' M' => ∃ ys, v = .tuple #[] ∧ (Kp cf xs ys) ∧ D' = [] ∧ M' = [own 4 99 a len cap ((ys).map eT)])
set_option maxHeartbeats 1600000 in
theorem sym_step {a : Option Addr} {len cap g : Nat} {caps : List Value} {cf : ET → ET → Int} {xs : List ET} (hC : Cmp cf) (hc : ∀ x y : ET, Spec Tryz.prog g ([.agg (eT x).toArray, .agg (eT y).toArray] ++ caps) [] [] (fun u D' M' => u = .int .i64 (cf x y) ∧ D' = [] ∧ M' = [])) {lo m hi : Nat} (ih : ∀ (lo' m' hi' : Nat) (xs' : List ET), hi' - lo' < hi - lo → lo' < m' → m' < hi' → hi' ≤ len → SymQ a len cap g caps cf lo' m' hi' xs') (hb : len ≤ 1000000) (h1 : lo < m) (h2 : m < hi) (h3 : hi ≤ len) : Spec Tryz.prog 195 [.slice a len cap, .int .i64 (lo : Int), .int .i64 (m : Int), .int .i64 (hi : Int), fnV g caps] [] [own 4 99 a len cap ((xs).map eT)] (fun v D' M' => ∃ (ys : List ET), v = .tuple #[] ∧ (Kp cf xs ys) ∧ D' = [] ∧ M' = [own 4 99 a len cap ((ys).map eT)]) := by
 refine zv (n := 220) Tryz.func195 ?_
 intro σ D M
 refine xo qM (fun hl hcc => ?_)
 rw [List.length_map] at hl
 refine T.ownNe qM jO (fun b o ha => ?_)
 obtain rfl := ha
 refine ze (O (E R R (E R R (yt R R R jO ?_))))
 refine yi R R R (I (zA R (fun h28 => ?_) (fun h28 => ?_)))
 ·try simp only [dq] at h28
  refine O (E R R (V R R (I (O (E R R (V R R (I (ze (zD (y8 (fun K' D' M' μ => ∃ (i j : Nat), ((m ≤ i ∧ i ≤ j ∧ j ≤ hi) ∧ (Srt cf xs → i = m)) ∧ K' = [(10, .int .i64 i), (11, .int .i64 j)] ∧ D' = [] ∧ M' = [own 4 99 (some ⟨b, o, none⟩) len cap ((xs).map eT)] ∧ μ = j - i) (.c 0 R <| .c 1 R <| .c 4 R <| zd _) (⟨m, hi, ⟨by omega, fun _ => rfl⟩, R, R, R, R⟩) (.c 10 R <| .c 11 R <| zd _) qD qS ?_))))))))))
  rintro K1 D1 M1 m1 ⟨i, j, ⟨hij, hS⟩, rfl, rfl, rfl, rfl⟩
  refine zM qA qA qA ?_
  refine ze (O (E R R (E R R (zW R R R (I (zA R (fun h33 => ?_) (fun h33 => ?_)))))))
  ·try simp only [dq] at h33
   refine zq (z8 (zD (O (E R R (E R R (zT R R R jO ?_))))))
   refine L.convU R xi xI R qI ?_
   refine L.shrI R R R qI ?_
   rw [half_eq]
   refine L.convN R xI xi R qI ?_
   refine V R R (I (ze ?_))
   have hg0 : xs[(i + j) / 2]? = some (gd xs ((i + j) / 2)) := y9 jO
   have hg1 : xs[lo]? = some (gd xs (lo)) := y9 jO
   refine xg qk qk (E R R (E R R (E R R (yN (i := (i + j) / 2) R yK sz99 R R jR qI ?_))))
   refine zx R ag99 R qN ?_
   refine E R R (E R R (yN (i := lo) R yK sz99 R R jR qI ?_))
   refine zx R ag99 R qN ?_
   refine L.callVF R R (ev2 R R) qD qS (hc (gd xs ((i + j) / 2)) (gd xs lo)) jF ?_
   refine zW R R R (yY (z8 (zA R (fun h50 => ?_) (fun h50 => ?_))))
   ·try simp only [dq] at h50
    refine zt (E R R (zT R R R jO ?_))
    exact V R R (zu (zS (z8 (zV ⟨(i + j) / 2 + 1, j, ⟨by omega, fun q => absurd h50 (q lo ((i + j) / 2) jO jO)⟩, R, R, R, R⟩ qI (.c 10 R <| .c 11 R <| zd _) (.c 0 R <| .c 1 R <| .c 4 R <| zd _) qD qD qF))))
   try simp only [dq] at h50
   exact zt (E R R (V R R (zu (zS (z8 (zV ⟨i, (i + j) / 2, ⟨by omega, hS⟩, R, R, R, R⟩ qI (.c 10 R <| .c 11 R <| zd _) (.c 0 R <| .c 1 R <| .c 4 R <| zd _) qD qD qF))))))
  try simp only [dq] at h33
  refine y4 (zG (zG (y5 (z8 (ze (O (E R R (V R R (I (zD (y8 (fun K' D' M' μ => ∃ (k : Nat) (zs : List ET), (lo ≤ k ∧ Kp cf xs zs) ∧ K' = [(13, .int .i64 k)] ∧ D' = [] ∧ M' = [own 4 99 (some ⟨b, o, none⟩) len cap ((zs).map eT)] ∧ μ = i - k) (.c 0 R <| .c 10 R <| zd _) (⟨lo, xs, ⟨by omega, .refl _⟩, R, R, R, R⟩) (.c 13 R <| zd _) qD qS ?_)))))))))))
  rintro K1 D1 M1 m1 ⟨k, zs, ⟨hk, hkp⟩, rfl, rfl, rfl, rfl⟩
  refine zM qA qA qA ?_
  have hzl := hkp.sm.1
  refine ze (O (E R R (E R R (yt R R R jO ?_))))
  refine zW R R R (I (zA R (fun h58 => ?_) (fun h58 => ?_)))
  ·try simp only [dq] at h58
   refine zq (z8 (ze (zD ?_)))
   have hg0 : zs[k]? = some (gd zs (k)) := y9 jO
   have hg1 : zs[k + 1]? = some (gd zs (k + 1)) := y9 jO
   refine y7 (clsL [1, 1, 1, 1, 1, 1, 1, 1, 1, 0, 1, 1, 1, 0, 1, 2, 1, 2]) qk ?_
   refine z9 0 R R (E R R (z7 (z9 1 R R (E R R (z7 (z9 2 R R (E R R (z7 (z9 3 R R (E R R (z7 (z9 4 R R (zT R R R jO ?_)))))))))))))
   refine z7 (z9 5 R R (E R R (z7 (z9 6 R R (E R R (z7 (z9 7 R R (zT R R R jO ?_))))))))
   refine z7 (z9 8 R R (yN (i := k + 1) R yK sz99 R R jR qI ?_))
   refine z7 (z9 10 R R (E R R (z7 (z9 11 R R (E R R (z7 (z9 12 R R (yN (i := k) R yK sz99 R R jR qI ?_))))))))
   refine z7 (zY (i := 9) R R R R qk qk qk qk R qD qF ?_)
   refine zx R ag99 R qN ?_
   refine z7 (zY (i := 13) R R R R qk qk qk qk R qD qF ?_)
   refine zx R ag99 R qN ?_
   refine z7 (z9 14 R R (yN (i := k) R yK sz99 R R jR qI ?_))
   refine z7 (zi 15 R (xK (k) ag99 R jR R qL qO qP qI ?_))
   refine zh R qD ?_
   refine z9 16 R R (yN (i := k + 1) R yK sz99 R R jR qI ?_)
   refine z7 (zi 17 R (xK (k + 1) ag99 R jR R qL qO qP qI ?_))
   refine zh R qD ?_
   refine zN qk ?_
   refine zS (z8 (zt (E R R (zT R R R jO ?_))))
   refine V R R (I (yp _ ((sw zs (k) (k + 1)).map eT) qP (by rw [sw, List.map_set, List.map_set]) ?_))
   exact zV ⟨k + 1, sw zs k (k + 1), ⟨by omega, Kp.of (hkp.sm.trans (sw_sm jO jO)) (fun q => by have := hS q; omega)⟩, R, R, R, R⟩ qI (.c 13 R <| zd _) (.c 0 R <| .c 10 R <| zd _) qD qD qF
  try simp only [dq] at h58
  exact y4 (zG (zG (y5 (z8 (zo (zL (yS (by simp) R ⟨_, R, hkp, R, R⟩ qD qF)))))))
 try simp only [dq] at h28
 refine zq (z8 (ze (O (E R R (E R R (yt R R R jO ?_))))))
 refine yi R R R (I (zA R (fun h80 => ?_) (fun h80 => ?_)))
 ·try simp only [dq] at h80
  refine O (E R R (V R R (I (O (E R R (V R R (I (ze (zD (y8 (fun K' D' M' μ => ∃ (i j : Nat), ((lo ≤ i ∧ i ≤ j ∧ j ≤ m) ∧ (Srt cf xs → j = m)) ∧ K' = [(14, .int .i64 i), (15, .int .i64 j)] ∧ D' = [] ∧ M' = [own 4 99 (some ⟨b, o, none⟩) len cap ((xs).map eT)] ∧ μ = j - i) (.c 0 R <| .c 2 R <| .c 4 R <| zd _) (⟨lo, m, ⟨by omega, fun _ => rfl⟩, R, R, R, R⟩) (.c 14 R <| .c 15 R <| zd _) qD qS ?_))))))))))
  rintro K1 D1 M1 m1 ⟨i, j, ⟨hij, hS⟩, rfl, rfl, rfl, rfl⟩
  refine zM qA qA qA ?_
  refine ze (O (E R R (E R R (zW R R R (I (zA R (fun h85 => ?_) (fun h85 => ?_)))))))
  ·try simp only [dq] at h85
   refine zq (z8 (zD (O (E R R (E R R (zT R R R jO ?_))))))
   refine L.convU R xi xI R qI ?_
   refine L.shrI R R R qI ?_
   rw [half_eq]
   refine L.convN R xI xi R qI ?_
   refine V R R (I (ze ?_))
   have hg0 : xs[m]? = some (gd xs (m)) := y9 jO
   have hg1 : xs[(i + j) / 2]? = some (gd xs ((i + j) / 2)) := y9 jO
   refine xg qk qk (E R R (E R R (E R R (yN (i := m) R yK sz99 R R jR qI ?_))))
   refine zx R ag99 R qN ?_
   refine E R R (E R R (yN (i := (i + j) / 2) R yK sz99 R R jR qI ?_))
   refine zx R ag99 R qN ?_
   refine L.callVF R R (ev2 R R) qD qS (hc (gd xs m) (gd xs ((i + j) / 2))) jF ?_
   refine zW R R R (x7 R R (yY (z8 (zA R (fun h103 => ?_) (fun h103 => ?_)))))
   ·try simp only [dq] at h103
    refine zt (E R R (zT R R R jO ?_))
    exact V R R (zu (zS (z8 (zV ⟨(i + j) / 2 + 1, j, ⟨by omega, hS⟩, R, R, R, R⟩ qI (.c 14 R <| .c 15 R <| zd _) (.c 0 R <| .c 2 R <| .c 4 R <| zd _) qD qD qF))))
   try simp only [dq] at h103
   exact zt (E R R (V R R (zu (zS (z8 (zV ⟨i, (i + j) / 2, ⟨by omega, fun q => absurd h103 (q ((i + j) / 2) m jO jO)⟩, R, R, R, R⟩ qI (.c 14 R <| .c 15 R <| zd _) (.c 0 R <| .c 2 R <| .c 4 R <| zd _) qD qD qF))))))
  try simp only [dq] at h85
  refine y4 (zG (zG (y5 (z8 (ze (O (E R R (V R R (I (zD (y8 (fun K' D' M' μ => ∃ (k : Nat) (zs : List ET), ((i ≤ k ∧ k ≤ m) ∧ Kp cf xs zs) ∧ K' = [(17, .int .i64 k)] ∧ D' = [] ∧ M' = [own 4 99 (some ⟨b, o, none⟩) len cap ((zs).map eT)] ∧ μ = k - i) (.c 0 R <| .c 14 R <| zd _) (⟨m, xs, ⟨by omega, .refl _⟩, R, R, R, R⟩) (.c 17 R <| zd _) qD qS ?_)))))))))))
  rintro K1 D1 M1 m1 ⟨k, zs, ⟨hk, hkp⟩, rfl, rfl, rfl, rfl⟩
  refine zM qA qA qA ?_
  have hzl := hkp.sm.1
  refine ze (O (E R R (E R R (yy R R R (I (zA R (fun h110 => ?_) (fun h110 => ?_)))))))
  ·try simp only [dq] at h110
   refine zq (z8 (ze (zD ?_)))
   have hg0 : zs[k]? = some (gd zs (k)) := y9 jO
   have hg1 : zs[k - 1]? = some (gd zs (k - 1)) := y9 jO
   refine y7 (clsL [1, 1, 1, 1, 1, 1, 1, 1, 1, 0, 1, 1, 1, 0, 1, 2, 1, 2]) qk ?_
   refine z9 0 R R (E R R (z7 (z9 1 R R (E R R (z7 (z9 2 R R (E R R (z7 (z9 3 R R (E R R (z7 (z9 4 R R (yt R R R jO ?_)))))))))))))
   rw [show (k : Int) - 1 = ((k - 1 : Nat) : Int) by omega]
   refine z7 (z9 5 R R (E R R (z7 (z9 6 R R (E R R (z7 (z9 7 R R (yt R R R jO ?_))))))))
   rw [show (k : Int) - 1 = ((k - 1 : Nat) : Int) by omega]
   refine z7 (z9 8 R R (yN (i := k - 1) R yK sz99 R R jR qI ?_))
   refine z7 (z9 10 R R (E R R (z7 (z9 11 R R (E R R (z7 (z9 12 R R (yN (i := k) R yK sz99 R R jR qI ?_))))))))
   refine z7 (zY (i := 9) R R R R qk qk qk qk R qD qF ?_)
   refine zx R ag99 R qN ?_
   refine z7 (zY (i := 13) R R R R qk qk qk qk R qD qF ?_)
   refine zx R ag99 R qN ?_
   refine z7 (z9 14 R R (yN (i := k) R yK sz99 R R jR qI ?_))
   refine z7 (zi 15 R (xK (k) ag99 R jR R qL qO qP qI ?_))
   refine zh R qD ?_
   refine z9 16 R R (yN (i := k - 1) R yK sz99 R R jR qI ?_)
   refine z7 (zi 17 R (xK (k - 1) ag99 R jR R qL qO qP qI ?_))
   refine zh R qD ?_
   refine zN qk ?_
   refine zS (z8 (zt (E R R (yt R R R jO ?_))))
   rw [show (k : Int) - 1 = ((k - 1 : Nat) : Int) by omega]
   refine V R R (I (yp _ ((sw zs (k) (k - 1)).map eT) qP (by rw [sw, List.map_set, List.map_set]) ?_))
   exact zV ⟨k - 1, sw zs k (k - 1), ⟨by omega, Kp.of (hkp.sm.trans (sw_sm jO jO)) (fun q => by have := hS q; omega)⟩, R, R, R, R⟩ qI (.c 17 R <| zd _) (.c 0 R <| .c 14 R <| zd _) qD qD qF
  try simp only [dq] at h110
  exact y4 (zG (zG (y5 (z8 (zo (zL (yS (by simp) R ⟨_, R, hkp, R, R⟩ qD qF)))))))
 try simp only [dq] at h80
 refine zq (z8 (O (E R R (E R R (zT R R R jO ?_)))))
 refine L.convU R xi xI R qI ?_
 refine L.shrI R R R qI ?_
 rw [half_eq]
 refine L.convN R xI xi R qI ?_
 refine V R R (I (O (E R R (E R R (zT R R R jO ?_)))))
 refine V R R (I (O (V R R (V R R (I (ze (O (E R R (E R R (yy R R R (I (yx (fun K' D' M' => ∃ (st r0 : Nat), (((lo + hi) / 2 < m ∧ st = (lo + hi) / 2 + m - hi ∧ r0 = (lo + hi) / 2) ∨ (m ≤ (lo + hi) / 2 ∧ st = lo ∧ r0 = m)) ∧ K' = [(20, .int .i64 (st : Int)), (21, .int .i64 (r0 : Int))] ∧ D' = [] ∧ M' = []) (M0 := []) (.c 0 R <| .c 1 R <| .c 2 R <| .c 3 R <| .c 4 R <| .c 18 R <| .c 19 R <| zd _) qS ?_ ?_))))))))))))
 ·refine zA R (fun h140 => ?_) (fun h140 => ?_)
  ·try simp only [dq] at h140
   refine O (E R R (E R R (yt R R R jO ?_)))
   rw [show ((lo + hi) / 2 : Nat) + (m : Int) - (hi : Int) = (((lo + hi) / 2 + m - hi : Nat) : Int) by omega]
   exact V R R (I (zt (E R R (V R R (I (zK ⟨(lo + hi) / 2 + m - hi, (lo + hi) / 2, jO, R, R, R⟩ (.c 20 R <| .c 21 R <| zd _) (.c 0 R <| .c 1 R <| .c 2 R <| .c 3 R <| .c 4 R <| .c 18 R <| .c 19 R <| zd _) qD qD qF))))))
  try simp only [dq] at h140
  exact O (E R R (V R R (I (zt (E R R (V R R (I (zK ⟨lo, m, jO, R, R, R⟩ (.c 20 R <| .c 21 R <| zd _) (.c 0 R <| .c 1 R <| .c 2 R <| .c 3 R <| .c 4 R <| .c 18 R <| .c 19 R <| zd _) qD qD qF))))))))
 rintro _ _ _ ⟨st, r0, hsr, rfl, rfl, rfl⟩
 refine zM qA qA qA ?_
 refine z8 (O (E R R (yt R R R jO ?_)))
 refine V R R (I (ze (zD (y8 (fun K' D' M' μ => ∃ (s r : Nat), ((st ≤ s ∧ s ≤ r ∧ r ≤ r0) ∧ (Srt cf xs → r = r0)) ∧ K' = [(20, .int .i64 s), (21, .int .i64 r)] ∧ D' = [] ∧ M' = [own 4 99 (some ⟨b, o, none⟩) len cap ((xs).map eT)] ∧ μ = r - s) (.c 0 R <| .c 1 R <| .c 2 R <| .c 3 R <| .c 4 R <| .c 18 R <| .c 19 R <| .c 22 R <| zd _) (⟨st, r0, ⟨by omega, fun _ => rfl⟩, R, R, R, R⟩) (.c 20 R <| .c 21 R <| zd _) qD qS ?_))))
 rintro K1 D1 M1 m1 ⟨s, r, ⟨hij, hS⟩, rfl, rfl, rfl, rfl⟩
 refine zM qA qA qA ?_
 refine ze (O (E R R (E R R (zW R R R (I (zA R (fun h151 => ?_) (fun h151 => ?_)))))))
 ·try simp only [dq] at h151
  refine zq (z8 (zD (O (E R R (E R R (zT R R R jO ?_))))))
  refine L.convU R xi xI R qI ?_
  refine L.shrI R R R qI ?_
  rw [half_eq]
  refine L.convN R xI xi R qI ?_
  refine V R R (I (ze ?_))
  have hg0 : xs[(lo + hi) / 2 + m - 1 - (s + r) / 2]? = some (gd xs ((lo + hi) / 2 + m - 1 - (s + r) / 2)) := y9 jO
  have hg1 : xs[(s + r) / 2]? = some (gd xs ((s + r) / 2)) := y9 jO
  refine xg qk qk (E R R (E R R (E R R (E R R (yt R R R jO ?_)))))
  rw [show ((lo + hi) / 2 : Nat) + (m : Int) - 1 - ((s + r) / 2 : Nat) = (((lo + hi) / 2 + m - 1 - (s + r) / 2 : Nat) : Int) by omega]
  refine yN (i := (lo + hi) / 2 + m - 1 - (s + r) / 2) R yK sz99 R R jR qI ?_
  refine zx R ag99 R qN ?_
  refine E R R (E R R (yN (i := (s + r) / 2) R yK sz99 R R jR qI ?_))
  refine zx R ag99 R qN ?_
  refine L.callVF R R (ev2 R R) qD qS (hc (gd xs ((lo + hi) / 2 + m - 1 - (s + r) / 2)) (gd xs ((s + r) / 2))) jF ?_
  refine zW R R R (x7 R R (yY (z8 (zA R (fun h171 => ?_) (fun h171 => ?_)))))
  ·try simp only [dq] at h171
   refine zt (E R R (zT R R R jO ?_))
   exact V R R (zu (zS (z8 (zV ⟨(s + r) / 2 + 1, r, ⟨by omega, hS⟩, R, R, R, R⟩ qI (.c 20 R <| .c 21 R <| zd _) (.c 0 R <| .c 1 R <| .c 2 R <| .c 3 R <| .c 4 R <| .c 18 R <| .c 19 R <| .c 22 R <| zd _) qD qD qF))))
  try simp only [dq] at h171
  exact zt (E R R (V R R (zu (zS (z8 (zV ⟨s, (s + r) / 2, ⟨by omega, fun q => absurd h171 (q ((s + r) / 2) ((lo + hi) / 2 + m - 1 - (s + r) / 2) jO jO)⟩, R, R, R, R⟩ qI (.c 20 R <| .c 21 R <| zd _) (.c 0 R <| .c 1 R <| .c 2 R <| .c 3 R <| .c 4 R <| .c 18 R <| .c 19 R <| .c 22 R <| zd _) qD qD qF))))))
 try simp only [dq] at h151
 refine y4 (zG (zG (y5 (z8 (O (E R R (E R R (yt R R R jO ?_))))))))
 rw [show ((lo + hi) / 2 : Nat) + (m : Int) - (s : Int) = (((lo + hi) / 2 + m - s : Nat) : Int) by omega]
 refine V R R (I (ze (ze (yx (fun K' D' M' => ∃ (q1 : Bool), (q1 = true ↔ (s < m ∧ m < (lo + hi) / 2 + m - s)) ∧ K' = [(185, .bool q1)] ∧ D' = [] ∧ M' = []) (M0 := []) (.c 0 R <| .c 1 R <| .c 2 R <| .c 3 R <| .c 4 R <| .c 18 R <| .c 20 R <| .c 24 R <| zd _) qS ?_ ?_))))
 ·refine zt (E R R (E R R (zW R R R (E R R (yT (t := 181) R (fun h1 => ?_) (fun h1 => ?_))))))
  ·try simp only [dq] at h1
   exact zj 181 R R R (E R R (zj 181 R R R (E R R (zj 181 R R R (zW R R R (ym R R R (I (zK ⟨_, (by simp_all <;> omega), R, R, R⟩ (.c 185 R <| zd _) (.c 0 R <| .c 1 R <| .c 2 R <| .c 3 R <| .c 4 R <| .c 18 R <| .c 20 R <| .c 24 R <| zd _) qD qD qF))))))))
  try simp only [dq] at h1
  exact zw 181 false R R R R R jD (zw 181 false R R R R R jD (zw 181 false R R R R R jD (yg R R R (I (zK ⟨_, (by simp_all <;> omega), R, R, R⟩ (.c 185 R <| zd _) (.c 0 R <| .c 1 R <| .c 2 R <| .c 3 R <| .c 4 R <| .c 18 R <| .c 20 R <| .c 24 R <| zd _) qD qD qF)))))
 rintro _ _ _ ⟨q1, hq1, rfl, rfl, rfl⟩
 refine zM qA qA qA ?_
 refine z8 (yx (fun K' D' M' => ∃ (ys : List ET), (Kp cf xs ys) ∧ K' = [] ∧ D' = [] ∧ M' = [own 4 99 (some ⟨b, o, none⟩) len cap ((ys).map eT)]) (M0 := [own 4 99 (some ⟨b, o, none⟩) len cap ((xs).map eT)]) (.c 0 R <| .c 1 R <| .c 3 R <| .c 4 R <| .c 18 R <| .c 20 R <| .c 24 R <| zd _) qS ?_ ?_)
 ·refine zA R (fun h185 => ?_) (fun h185 => ?_)
  ·try simp only [dq] at h185
   have hq := hq1.1 h185
   have hnS : ¬ Srt cf xs := fun q => by have := hS q; omega
   refine zt (E R R (E R R (E R R (E R R (E R R (zp R (ev5 R R R R R) qD qS (rot_spec (lo := s) (m := m) (hi := (lo + hi) / 2 + m - s) hb jO jO jO) ?_))))))
   rintro _ _ _ ⟨ys, rfl, hrs, rfl, rfl⟩
   refine zm qA qA ?_
   exact I (zK ⟨_, (Kp.of hrs hnS), R, R, R⟩ (zd _) (.c 0 R <| .c 1 R <| .c 3 R <| .c 4 R <| .c 18 R <| .c 20 R <| .c 24 R <| zd _) qD qD qF)
  try simp only [dq] at h185
  exact zq (z8 (zK ⟨_, (Kp.refl xs), R, R, R⟩ (zd _) (.c 0 R <| .c 1 R <| .c 3 R <| .c 4 R <| .c 18 R <| .c 20 R <| .c 24 R <| zd _) qD qD qF))
 rintro _ _ _ ⟨ys, hk1, rfl, rfl, rfl⟩
 refine zM qA qA qA ?_
 refine z8 (ze (ze (yx (fun K' D' M' => ∃ (q2 : Bool), (q2 = true ↔ (lo < s ∧ s < (lo + hi) / 2)) ∧ K' = [(199, .bool q2)] ∧ D' = [] ∧ M' = []) (M0 := []) (.c 0 R <| .c 1 R <| .c 3 R <| .c 4 R <| .c 18 R <| .c 20 R <| .c 24 R <| zd _) qS ?_ ?_)))
 ·refine zt (E R R (E R R (zW R R R (E R R (yT (t := 195) R (fun h2 => ?_) (fun h2 => ?_))))))
  ·try simp only [dq] at h2
   exact zj 195 R R R (E R R (zj 195 R R R (E R R (zj 195 R R R (zW R R R (ym R R R (I (zK ⟨_, (by simp_all <;> omega), R, R, R⟩ (.c 199 R <| zd _) (.c 0 R <| .c 1 R <| .c 3 R <| .c 4 R <| .c 18 R <| .c 20 R <| .c 24 R <| zd _) qD qD qF))))))))
  try simp only [dq] at h2
  exact zw 195 false R R R R R jD (zw 195 false R R R R R jD (zw 195 false R R R R R jD (yg R R R (I (zK ⟨_, (by simp_all <;> omega), R, R, R⟩ (.c 199 R <| zd _) (.c 0 R <| .c 1 R <| .c 3 R <| .c 4 R <| .c 18 R <| .c 20 R <| .c 24 R <| zd _) qD qD qF)))))
 rintro _ _ _ ⟨q2, hq2, rfl, rfl, rfl⟩
 refine zM qA qA qA ?_
 refine z8 (yx (fun K' D' M' => ∃ (zs : List ET), (Kp cf xs zs) ∧ K' = [] ∧ D' = [] ∧ M' = [own 4 99 (some ⟨b, o, none⟩) len cap ((zs).map eT)]) (M0 := [own 4 99 (some ⟨b, o, none⟩) len cap ((ys).map eT)]) (.c 0 R <| .c 3 R <| .c 4 R <| .c 18 R <| .c 24 R <| zd _) qS ?_ ?_)
 ·refine zA R (fun h199 => ?_) (fun h199 => ?_)
  ·try simp only [dq] at h199
   have hq := hq2.1 h199
   refine zt (E R R (E R R (E R R (E R R (E R R (zp R (ev5 R R R R R) qD qS (ih lo s ((lo + hi) / 2) ys jO jO jO jO) ?_))))))
   rintro _ _ _ ⟨zs, rfl, hks, rfl, rfl⟩
   refine zm qA qA ?_
   exact I (zK ⟨_, (hk1.trans hks), R, R, R⟩ (zd _) (.c 0 R <| .c 3 R <| .c 4 R <| .c 18 R <| .c 24 R <| zd _) qD qD qF)
  try simp only [dq] at h199
  exact zq (z8 (zK ⟨_, hk1, R, R, R⟩ (zd _) (.c 0 R <| .c 3 R <| .c 4 R <| .c 18 R <| .c 24 R <| zd _) qD qD qF))
 rintro _ _ _ ⟨zs, hk2, rfl, rfl, rfl⟩
 refine zM qA qA qA ?_
 refine z8 (ze (yx (fun K' D' M' => ∃ (q3 : Bool), (q3 = true ↔ ((lo + hi) / 2 < (lo + hi) / 2 + m - s ∧ (lo + hi) / 2 + m - s < hi)) ∧ K' = [(213, .bool q3)] ∧ D' = [] ∧ M' = []) (M0 := []) (.c 0 R <| .c 3 R <| .c 4 R <| .c 18 R <| .c 24 R <| zd _) qS ?_ ?_))
 ·refine zt (E R R (E R R (zW R R R (E R R (yT (t := 209) R (fun h3 => ?_) (fun h3 => ?_))))))
  ·try simp only [dq] at h3
   exact zj 209 R R R (E R R (zj 209 R R R (E R R (zj 209 R R R (zW R R R (ym R R R (I (zK ⟨_, (by simp_all <;> omega), R, R, R⟩ (.c 213 R <| zd _) (.c 0 R <| .c 3 R <| .c 4 R <| .c 18 R <| .c 24 R <| zd _) qD qD qF))))))))
  try simp only [dq] at h3
  exact zw 209 false R R R R R jD (zw 209 false R R R R R jD (zw 209 false R R R R R jD (yg R R R (I (zK ⟨_, (by simp_all <;> omega), R, R, R⟩ (.c 213 R <| zd _) (.c 0 R <| .c 3 R <| .c 4 R <| .c 18 R <| .c 24 R <| zd _) qD qD qF)))))
 rintro _ _ _ ⟨q3, hq3, rfl, rfl, rfl⟩
 refine zM qA qA qA ?_
 refine z8 (zA R (fun h213 => ?_) (fun h213 => ?_))
 ·try simp only [dq] at h213
  have hq := hq3.1 h213
  refine zt (E R R (E R R (E R R (E R R (E R R (zp R (ev5 R R R R R) qD qS (ih ((lo + hi) / 2) ((lo + hi) / 2 + m - s) hi zs jO jO jO jO) ?_))))))
  rintro _ _ _ ⟨us, rfl, hks, rfl, rfl⟩
  refine zm qA qA ?_
  exact zu (yS (by simp) R ⟨_, R, hk2.trans hks, R, R⟩ qD qF)
 try simp only [dq] at h213
 exact zq (yS (by simp) R ⟨_, R, hk2, R, R⟩ qD qF)
theorem sym_spec {a : Option Addr} {len cap g : Nat} {caps : List Value} {cf : ET → ET → Int} (hC : Cmp cf) (hc : ∀ x y : ET, Spec Tryz.prog g ([.agg (eT x).toArray, .agg (eT y).toArray] ++ caps) [] [] (fun u D' M' => u = .int .i64 (cf x y) ∧ D' = [] ∧ M' = [])) (hb : len ≤ 1000000) : ∀ (n lo m hi : Nat) (xs : List ET), hi - lo = n → lo < m → m < hi → hi ≤ len → SymQ a len cap g caps cf lo m hi xs := by
 intro n
 induction n using Nat.strongRecOn with
 | _ n ih =>
  intro lo m hi xs hn h1 h2 h3
  exact sym_step hC hc (fun lo' m' hi' xs' q1 q2 q3 q4 => ih (hi' - lo') jO lo' m' hi' xs' R q2 q3 q4) hb h1 h2 h3
theorem stab_spec {a : Option Addr} {len cap g : Nat} {caps : List Value} {cf : ET → ET → Int} {xs : List ET} (hC : Cmp cf) (hc : ∀ x y : ET, Spec Tryz.prog g ([.agg (eT x).toArray, .agg (eT y).toArray] ++ caps) [] [] (fun u D' M' => u = .int .i64 (cf x y) ∧ D' = [] ∧ M' = [])) (hb : len ≤ 1000000) : Spec Tryz.prog 136 [.slice a len cap, .int .i64 (len : Int), fnV g caps] [] [own 4 99 a len cap ((xs).map eT)] (fun v D' M' => ∃ (ys : List ET), v = .tuple #[] ∧ (Kp cf xs ys) ∧ ((len < 20 → (∀ tag : ET → Nat, (∀ p q, p < q → q < xs.length → tag (gd xs p) < tag (gd xs q)) → Pw (Rt cf tag) ys len))) ∧ D' = [] ∧ M' = [own 4 99 a len cap ((ys).map eT)]) := by
 refine zv (n := 63) Tryz.func136 ?_
 intro σ D M
 refine xo qM (fun hl hcc => ?_)
 rw [List.length_map] at hl
 refine O (V R R (I (O (E R R (V R R (V R R (I (ze (zD (y8 (fun K' D' M' μ => ∃ (a1 b1 : Nat) (ys : List ET), ((a1 + 20 = b1 ∧ a1 ≤ len ∧ (a1 = 0 ∨ 20 ≤ a1)) ∧ Kp cf xs ys ∧ (a1 = 0 → ys = xs)) ∧ K' = [(7, .int .i64 (a1 : Int)), (8, .int .i64 (b1 : Int))] ∧ D' = [] ∧ M' = [own 4 99 a len cap ((ys).map eT)] ∧ μ = len + 20 - b1) (.c 0 R <| .c 1 R <| .c 2 R <| .c 6 R <| zd _) (⟨0, 20, xs, ⟨by omega, .refl _, fun _ => rfl⟩, R, R, R, R⟩) (.c 7 R <| .c 8 R <| zd _) qD qS ?_))))))))))
 rintro K1 D1 M1 m1 ⟨a1, b1, ys, ⟨hab, hk, h0⟩, rfl, rfl, rfl, rfl⟩
 refine zM qA qA qA ?_
 have hyl := hk.sm.1
 refine ze (O (E R R (E R R (L.leI R R R (I (zA R (fun h13 => ?_) (fun h13 => ?_)))))))
 ·try simp only [dq] at h13
  refine zq (z8 (zD (O (E R R (E R R (E R R (E R R (zp R (ev4 R R R R) qD qS (ins_spec hC hc (lo := a1) (hi := b1) hb jO jO) ?_))))))))
  rintro _ _ _ ⟨ys2, rfl, hk2, hs2, rfl, rfl⟩
  refine zm qA qA ?_
  refine I (O (E R R (V R R (I (zt (E R R (E R R (zT R R R jO ?_))))))))
  exact V R R (zu (zS (z8 (zV ⟨b1, b1 + 20, _, ⟨by omega, hk.trans hk2, fun q => by omega⟩, R, R, R, R⟩ qI (.c 7 R <| .c 8 R <| zd _) (.c 0 R <| .c 1 R <| .c 2 R <| .c 6 R <| zd _) qD qD qF))))
 try simp only [dq] at h13
 refine y4 (zG (zG (y5 (z8 (O (E R R (E R R (E R R (E R R (zp R (ev4 R R R R) qD qS (ins_spec hC hc (lo := a1) (hi := len) hb jO jO) ?_))))))))))
 rintro _ _ _ ⟨ys2, rfl, hk2, hs2, rfl, rfl⟩
 refine zm qA qA ?_
 refine I (zD (y8 (fun K' D' M' μ => ∃ (bs : Nat) (zs : List ET), (20 ≤ bs ∧ Kp cf xs zs ∧ (len < 20 → (∀ tag : ET → Nat, (∀ p q, p < q → q < xs.length → tag (gd xs p) < tag (gd xs q)) → Pw (Rt cf tag) zs len))) ∧ K' = [(6, .int .i64 (bs : Int))] ∧ D' = [] ∧ M' = [own 4 99 a len cap ((zs).map eT)] ∧ μ = len - bs) (.c 0 R <| .c 1 R <| .c 2 R <| zd _) (⟨20, _, ⟨by omega, hk.trans hk2, fun q => (by have e := h0 jO; rw [e] at hs2; exact hs2 jO R)⟩, R, R, R, R⟩) (.c 6 R <| zd _) qD qS ?_))
 rintro K1 D1 M1 m1 ⟨bs, zs, ⟨hbs, hk3, hs3⟩, rfl, rfl, rfl, rfl⟩
 refine zM qA qA qA ?_
 have hzl := hk3.sm.1
 refine ze (O (E R R (E R R (zW R R R (I (zA R (fun h30 => ?_) (fun h30 => ?_)))))))
 ·try simp only [dq] at h30
  refine zq (z8 (zD (O (E R R (L.mulN R R R jO ?_)))))
  refine V R R (V R R (I (ze (zD (y8 (fun K' D' M' μ => ∃ (a2 b2 : Nat) (us : List ET), ((a2 + 2 * bs = b2 ∧ a2 ≤ len) ∧ Kp cf xs us) ∧ K' = [(7, .int .i64 (a2 : Int)), (8, .int .i64 (b2 : Int))] ∧ D' = [] ∧ M' = [own 4 99 a len cap ((us).map eT)] ∧ μ = len + 2 * bs - b2) (.c 0 R <| .c 1 R <| .c 2 R <| .c 6 R <| zd _) (⟨0, 2 * bs, _, ⟨by omega, hk3⟩, R, R, R, R⟩) (.c 7 R <| .c 8 R <| zd _) qD qS ?_)))))
  rintro K1 D1 M1 m1 ⟨a2, b2, us, ⟨hab2, hk4⟩, rfl, rfl, rfl, rfl⟩
  refine zM qA qA qA ?_
  have hul := hk4.sm.1
  refine ze (O (E R R (E R R (L.leI R R R (I (zA R (fun h35 => ?_) (fun h35 => ?_)))))))
  ·try simp only [dq] at h35
   refine zq (z8 (zD (O (E R R (E R R (E R R (E R R (zT R R R jO ?_))))))))
   skip
   refine E R R (E R R (zp R (ev5 R R R R R) qD qS (sym_spec hC hc hb (b2 - a2) a2 (a2 + bs) b2 us R jO jO jO) ?_))
   rintro _ _ _ ⟨us2, rfl, hk2, rfl, rfl⟩
   refine zm qA qA ?_
   refine I (O (E R R (V R R (I (zt (E R R (E R R (L.mulN R R R jO ?_))))))))
   refine zT R R R jO ?_
   exact V R R (zu (zS (z8 (zV ⟨b2, b2 + 2 * bs, _, ⟨by omega, hk4.trans hk2⟩, R, R, R, R⟩ qI (.c 7 R <| .c 8 R <| zd _) (.c 0 R <| .c 1 R <| .c 2 R <| .c 6 R <| zd _) qD qD qF))))
  try simp only [dq] at h35
  refine y4 (zG (zG (y5 (z8 (ze (O (E R R (E R R (zT R R R jO ?_)))))))))
  refine V R R (I (O (E R R (E R R (zW R R R (I (yx (fun K' D' M' => ∃ (us5 : List ET), (Kp cf xs us5) ∧ K' = [] ∧ D' = [] ∧ M' = [own 4 99 a len cap ((us5).map eT)]) (M0 := [own 4 99 a len cap ((us).map eT)]) (.c 0 R <| .c 1 R <| .c 2 R <| .c 6 R <| zd _) qS ?_ ?_)))))))
  ·refine zA R (fun h54 => ?_) (fun h54 => ?_)
   ·try simp only [dq] at h54
    refine zt (E R R (E R R (E R R (E R R (E R R (zp R (ev5 R R R R R) qD qS (sym_spec hC hc hb (len - a2) a2 (a2 + bs) len us R jO jO jO) ?_))))))
    rintro _ _ _ ⟨us2, rfl, hk2, rfl, rfl⟩
    refine zm qA qA ?_
    exact I (zK ⟨_, (hk4.trans hk2), R, R, R⟩ (zd _) (.c 0 R <| .c 1 R <| .c 2 R <| .c 6 R <| zd _) qD qD qF)
   try simp only [dq] at h54
   exact zq (z8 (zK ⟨_, hk4, R, R, R⟩ (zd _) (.c 0 R <| .c 1 R <| .c 2 R <| .c 6 R <| zd _) qD qD qF))
  rintro _ _ _ ⟨us5, hk5, rfl, rfl, rfl⟩
  refine zM qA qA qA ?_
  refine z8 (zt (E R R (L.mulN R R R jO ?_)))
  exact V R R (zu (zS (z8 (zV ⟨bs * 2, _, ⟨by omega, hk5, fun q => by omega⟩, R, R, R, R⟩ qI (.c 6 R <| zd _) (.c 0 R <| .c 1 R <| .c 2 R <| zd _) qD qD qF))))
 try simp only [dq] at h30
 exact y4 (zG (zG (y5 (yS (by simp) R ⟨_, R, hk3, hs3, R, R⟩ qD qF))))
theorem sstab_spec {a : Option Addr} {len cap g : Nat} {caps : List Value} {cf : ET → ET → Int} {xs : List ET} (hC : Cmp cf) (hc : ∀ x y : ET, Spec Tryz.prog g ([.agg (eT x).toArray, .agg (eT y).toArray] ++ caps) [] [] (fun u D' M' => u = .int .i64 (cf x y) ∧ D' = [] ∧ M' = [])) (hb : len ≤ 1000000) : Spec Tryz.prog 82 [.slice a len cap, fnV g caps] [] [own 4 99 a len cap ((xs).map eT)] (fun v D' M' => ∃ (ys : List ET), v = .tuple #[] ∧ (Kp cf xs ys) ∧ ((len < 20 → (∀ tag : ET → Nat, (∀ p q, p < q → q < xs.length → tag (gd xs p) < tag (gd xs q)) → Pw (Rt cf tag) ys len))) ∧ D' = [] ∧ M' = [own 4 99 a len cap ((ys).map eT)]) := by
 refine zv (n := 9) Tryz.func82 ?_
 intro σ D M
 refine zt (E R R (E R R (yb R yK R (E R R (zp R (ev3 R R R) qD qS (stab_spec hC hc hb) ?_)))))
 rintro _ _ _ ⟨ys, rfl, hk, hs, rfl, rfl⟩
 refine zm qA qA ?_
 exact zu (yS (by simp) R ⟨_, R, hk, hs, R, R⟩ qD qF)
end Cv
