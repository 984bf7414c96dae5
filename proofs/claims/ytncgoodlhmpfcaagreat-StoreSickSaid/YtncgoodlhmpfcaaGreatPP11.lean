/-
  The walks: sorting names: no more than twelve.
-/
import Derived.Test.YtncgoodlhmpfcaaGreatFA11
set_option linter.all false
set_option maxHeartbeats 400000
set_option maxRecDepth 10000
namespace Cv
open Go Go.Proofs

def lenTab : List UInt8 := [0, 1, 2, 2, 3, 3, 3, 3, 4, 4, 4, 4, 4, 4, 4, 4, 5, 5, 5, 5, 5, 5, 5, 5, 5, 5, 5, 5, 5, 5, 5, 5, 6, 6, 6, 6, 6, 6, 6, 6, 6, 6, 6, 6, 6, 6, 6, 6, 6, 6, 6, 6, 6, 6, 6, 6, 6, 6, 6, 6, 6, 6, 6, 6, 7, 7, 7, 7, 7, 7, 7, 7, 7, 7, 7, 7, 7, 7, 7, 7, 7, 7, 7, 7, 7, 7, 7, 7, 7, 7, 7, 7, 7, 7, 7, 7, 7, 7, 7, 7, 7, 7, 7, 7, 7, 7, 7, 7, 7, 7, 7, 7, 7, 7, 7, 7, 7, 7, 7, 7, 7, 7, 7, 7, 7, 7, 7, 7, 8, 8, 8, 8, 8, 8, 8, 8, 8, 8, 8, 8, 8, 8, 8, 8, 8, 8, 8, 8, 8, 8, 8, 8, 8, 8, 8, 8, 8, 8, 8, 8, 8, 8, 8, 8, 8, 8, 8, 8, 8, 8, 8, 8, 8, 8, 8, 8, 8, 8, 8, 8, 8, 8, 8, 8, 8, 8, 8, 8, 8, 8, 8, 8, 8, 8, 8, 8, 8, 8, 8, 8, 8, 8, 8, 8, 8, 8, 8, 8, 8, 8, 8, 8, 8, 8, 8, 8, 8, 8, 8, 8, 8, 8, 8, 8, 8, 8, 8, 8, 8, 8, 8, 8, 8, 8, 8, 8, 8, 8, 8, 8, 8, 8, 8, 8, 8, 8, 8, 8, 8, 8, 8, 8, 8, 8, 8, 8]
theorem lenTab_ok : ∀ m : Fin 256, BitsL m.1 (gd lenTab m.1).toNat ∧ (gd lenTab m.1).toNat ≤ 8 := by
 have : ∀ m : Fin 256, (m.1 < 2 ^ (gd lenTab m.1).toNat ∧ (m.1 = 0 ∨ 2 ^ (gd lenTab m.1).toNat ≤ 2 * m.1)) ∧ (gd lenTab m.1).toNat ≤ 8 := by decide +kernel
 exact fun m => ⟨⟨(this m).1.1, (this m).1.2⟩, (this m).2⟩
theorem fdiv256 (n : Nat) : Int.fdiv (n : Int) (2 ^ (min (8 : Int).toNat IntKind.u64.bits)) = ((n / 256 : Nat) : Int) := by
 show Int.fdiv (n : Int) 256 = _
 rw [Int.fdiv_eq_ediv_of_nonneg _ jO]; omega
theorem u8_nat {m : Nat} (h : m < 256) : (UInt8.ofNat m).toNat = m := by simp; omega
theorem Lconv8 {z : Int} {m : Nat} (h : z = (m : Int)) (hm : m < 256) : (.int .u8 (IntKind.u8.wrap z) : Value) = Y (UInt8.ofNat m) := by
 subst h
 show Value.int .u8 _ = Value.int .u8 _
 rw [wrap_u8, show ((m : Int) % 256).toNat = m by omega]
theorem len64w_spec {n : Nat} (hn : n < 65536) : Spec Tryz.prog 150 [.int .u64 (n : Int)] [] [] (fun v D' M' => ∃ (k : Nat), v = .int .i64 (k : Int) ∧ (BitsL n k) ∧ (k ≤ 16) ∧ D' = [] ∧ M' = []) := by
 refine zv (n := 25) Tryz.func150 ?_
 intro σ D M
 refine O (V R R (I (ze (O (E R R (L.geI R R R (I (zR R (decide_eq_false jO) ?_))))))))
 refine zq (z8 (ze (O (E R R (L.geI R R R (I (zR R (decide_eq_false jO) ?_)))))))
 refine zq (z8 (ze (O (E R R (L.geI R R R (I (yx (fun K' D' M' => ∃ (z0 a0 : Int), (∃ m c : Nat, m < 256 ∧ z0 = (m : Int) ∧ a0 = (c : Int) ∧ c ≤ 8 ∧ ∀ k, BitsL m k → BitsL n (c + k)) ∧ K' = [(0, .int .u64 z0), (2, .int .i64 a0)] ∧ D' = [] ∧ M' = []) (M0 := []) (zd _) qS ?_ ?_)))))))
 ·refine zA R (fun h14 => ?_) (fun h14 => ?_)
  ·try simp only [dq] at h14
   refine O (E R R (L.shrI R R R qI ?_))
   refine V R R (I (zt (E R R (zT R R R jO ?_))))
   exact V R R (I (zK ⟨_, _, ⟨n / 256, 8, by omega, fdiv256 n, R, by omega, fun k h => h.up jO⟩, R, R, R⟩ (.c 0 R <| .c 2 R <| zd _) (zd _) qD qD qF))
  try simp only [dq] at h14
  exact zq (z8 (zK ⟨_, _, ⟨n, 0, by omega, R, R, by omega, fun k h => by rw [Nat.zero_add]; exact h⟩, R, R, R⟩ (.c 0 R <| .c 2 R <| zd _) (zd _) qD qD qF))
 rintro _ _ _ ⟨z0, a0, hz0, rfl, rfl, rfl⟩
 refine zM qA qA qA ?_
 refine z8 (ze ?_)
 obtain ⟨m, c, hm, hmz, hac, hc8, hmk⟩ := hz0
 subst hac
 obtain ⟨hT1, hT2⟩ := lenTab_ok ⟨m, hm⟩
 have hgt : lenTab[m]? = some (gd lenTab m) := y9 (Nat.lt_of_lt_of_eq hm rfl)
 have h256 := (gd lenTab m).toNat_lt
 have h9 : (gd lenTab m).toNat ≤ 8 := hT2
 refine zt (E R R (E R R (L.convI R xM zX R ?_)))
 refine zE (t := 21) (u := Y (UInt8.ofNat m)) R (Lconv8 jO hm) ?_
 refine L.indexS (i := (UInt8.ofNat m).toNat) R ye R R jR (show lenTab[(UInt8.ofNat m).toNat]? = some (gd lenTab m) from by rw [u8_nat hm]; exact hgt) ?_
 refine L.convN R zX xi R qI ?_
 refine zT R R R jO ?_
 refine zE (t := 24) (u := .int .i64 ((c + (gd lenTab m).toNat : Nat) : Int)) R (congrArg (Value.int .i64) jO) ?_
 exact V R R (I (zo (zy R R ⟨_, R, hmk _ hT1, by omega, R, R⟩ qD qF)))
theorem lenw_spec {n : Nat} (hn : n < 65536) : Spec Tryz.prog 91 [.int .u64 (n : Int)] [] [] (fun v D' M' => ∃ (k : Nat), v = .int .i64 (k : Int) ∧ (BitsL n k) ∧ (k ≤ 16) ∧ D' = [] ∧ M' = []) := by
 refine zv (n := 8) Tryz.func91 ?_
 intro σ D M
 refine O (V R R (I (ze (zR R R ?_))))
 refine zq (z8 (O (E R R (zp R (ev1 R) qD qS (len64w_spec hn) ?_))))
 rintro _ _ _ ⟨k, rfl, hk, hk16, rfl, rfl⟩
 refine zm qA qA ?_
 exact V R R (I (zo (zy R R ⟨k, R, hk, hk16, R, R⟩ qD qF)))
theorem insw_spec {a : Option Addr} {g len cap : Nat} {cf : ID32 → ID32 → Int} {xs : List ID32} (hO : SWO cf) (hI : ∀ x : ID32, ¬ cf x x < 0) (hc : ∀ x y : ID32, Spec Tryz.prog g [.agg (iC x).toArray, .agg (iC y).toArray] [] [] (fun u D' M' => u = .int .i64 (cf x y) ∧ D' = [] ∧ M' = [])) {ia ib : Nat} (hab : ia ≤ ib) (hib : ib ≤ len) (hb : len ≤ 1000000) : Spec Tryz.prog 141 [.slice a len cap, .int .i64 (ia : Int), .int .i64 (ib : Int), fnV g []] [] [own 32 38 a len cap ((xs).map iC)] (fun v D' M' => ∃ (ys : List ID32), v = .tuple #[] ∧ (PI ia ib xs ys) ∧ (SrtP cf ys ia ib) ∧ D' = [] ∧ M' = [own 32 38 a len cap ((ys).map iC)]) := by
 refine zv (n := 53) Tryz.func141 ?_
 intro σ D M
 refine xo qM (fun hl hcc => ?_)
 rw [List.length_map] at hl
 refine O (E R R (zT R R R jO ?_))
 refine V R R (I (zD (y8 (fun K' D' M' μ => ∃ (i : Nat) (ys : List ID32), ((ia + 1 ≤ i ∧ (i ≤ ib ∨ i = ia + 1)) ∧ PI ia ib xs ys ∧ SrtP cf ys ia i) ∧ K' = [(8, .int .i64 (i : Int))] ∧ D' = [] ∧ M' = [own 32 38 a len cap ((ys).map iC)] ∧ μ = ib - i) (.c 0 R <| .c 1 R <| .c 2 R <| .c 3 R <| zd _) (⟨ia + 1, xs, ⟨by omega, .refl _ _ _, .one⟩, R, R, R, R⟩) (.c 8 R <| zd _) qD qS ?_)))
 rintro K1 D1 M1 m1 ⟨i, ys, ⟨hi, hP, hS⟩, rfl, rfl, rfl, rfl⟩
 refine zM qA qA qA ?_
 have hyl := hP.len
 refine ze (O (E R R (E R R (zW R R R (I (zA R (fun h14 => ?_) (fun h14 => ?_)))))))
 ·try simp only [dq] at h14
  refine T.ownNe qM jO (fun pb po ha => ?_)
  subst ha
  refine zq (z8 (ze (zD (O (E R R (V R R (I (zD (y8 (fun K' D' M' μ => ∃ (j : Nat) (zs : List ID32), ((ia ≤ j ∧ j ≤ i) ∧ PI ia ib xs zs ∧ InB cf zs ia i j) ∧ K' = [(9, .int .i64 (j : Int))] ∧ D' = [] ∧ M' = [own 32 38 (some ⟨pb, po, none⟩) len cap ((zs).map iC)] ∧ μ = 2 * j) (.c 0 R <| .c 1 R <| .c 2 R <| .c 3 R <| .c 8 R <| zd _) (⟨i, ys, ⟨by omega, hP, hS.start⟩, R, R, R, R⟩) (.c 9 R <| zd _) qD qS ?_)))))))))
  rintro K1 D1 M1 m1 ⟨j, zs, ⟨hj, hP2, hB⟩, rfl, rfl, rfl, rfl⟩
  refine zM qA qA qA ?_
  have hzl := hP2.len
  refine ze (ze ?_)
  rcases Nat.lt_or_ge ia j with hij | hij
  ·have hg0 : zs[j]? = some (gd zs (j)) := y9 jO
   have hw0 := yw (gd zs (j))
   have hg1 : zs[j - 1]? = some (gd zs (j - 1)) := y9 jO
   have hw1 := yw (gd zs (j - 1))
   refine xg qk qk (E R R (E R R (yy R R R (E R R (zE (t := 21) R (show _ = Value.bool true from congrArg Value.bool (decide_eq_true jO)) ?_)))))
   refine zj 21 R R R (E R R (zj 21 R R R (E R R (zj 21 R R R (E R R (zj 21 R R R (yN (i := j) R yh sz38 R R jR qI ?_)))))))
   refine zj 21 R R R (zx R zI R (xJ qM (yJ hg0) hw0) ?_)
   refine zj 21 R R R (E R R (zj 21 R R R (E R R (zj 21 R R R (yt R R R jO ?_)))))
   refine zE (t := 29) (u := .int .i64 ((j - 1 : Nat) : Int)) R (congrArg (Value.int .i64) jO) ?_
   refine zj 21 R R R (yN (i := j - 1) R yh sz38 R R jR qI ?_)
   refine zj 21 R R R (zx R zI R (xJ qM (yJ hg1) hw1) ?_)
   refine zj 21 R R R (L.callVF R R (ev2 R R) qD qS (hc (gd zs j) (gd zs (j - 1))) jF ?_)
   refine zj 21 R R R (zW R R R (ym R R R (yY (z8 (zA R (fun h34 => ?_) (fun h34 => ?_))))))
   ·try simp only [dq] at h34
    refine zq (z8 (ze (zD ?_)))
    have hg0 : zs[j]? = some (gd zs (j)) := y9 jO
    have hw0 := yw (gd zs (j))
    have hg1 : zs[j - 1]? = some (gd zs (j - 1)) := y9 jO
    have hw1 := yw (gd zs (j - 1))
    refine y7 (clsL [1, 1, 1, 1, 1, 1, 1, 1, 1, 0, 1, 1, 1, 0, 1, 2, 1, 2]) qk ?_
    refine z9 0 R R (E R R (z7 (z9 1 R R (E R R (z7 (z9 2 R R (E R R (z7 (z9 3 R R (E R R (z7 (z9 4 R R (yt R R R jO ?_)))))))))))))
    refine zE (t := 41) (u := .int .i64 ((j - 1 : Nat) : Int)) R (congrArg (Value.int .i64) jO) ?_
    refine z7 (z9 5 R R (E R R (z7 (z9 6 R R (E R R (z7 (z9 7 R R (yt R R R jO ?_))))))))
    refine zE (t := 44) (u := .int .i64 ((j - 1 : Nat) : Int)) R (congrArg (Value.int .i64) jO) ?_
    refine z7 (z9 8 R R (yN (i := j - 1) R yh sz38 R R jR qI ?_))
    refine z7 (z9 10 R R (E R R (z7 (z9 11 R R (E R R (z7 (z9 12 R R (yN (i := j) R yh sz38 R R jR qI ?_))))))))
    refine z7 (zY (i := 9) R R R R qk qk qk qk R qD qF ?_)
    refine zx R zI R (xJ qM (yJ hg1) hw1) ?_
    refine z7 (zY (i := 13) R R R R qk qk qk qk R qD qF ?_)
    refine zx R zI R (xJ qM (yJ hg0) hw0) ?_
    refine z7 (z9 14 R R (yN (i := j) R yh sz38 R R jR qI ?_))
    refine z7 (zi 15 R (xK (j) zI R jR R qL qO qP qI ?_))
    refine zh R qD ?_
    refine z9 16 R R (yN (i := j - 1) R yh sz38 R R jR qI ?_)
    refine z7 (zi 17 R (xK (j - 1) zI R jR R qL qO qP qI ?_))
    refine zh R qD ?_
    refine zN qk ?_
    refine yp _ ((sw zs (j) (j - 1)).map iC) qP (by rw [sw, List.map_set, List.map_set]) ?_
    refine zS (z8 (zt (E R R (yt R R R jO ?_))))
    refine zE (t := 36) (u := .int .i64 ((j - 1 : Nat) : Int)) R (congrArg (Value.int .i64) jO) ?_
    exact V R R (I (zV ⟨j - 1, sw zs j (j - 1), ⟨by omega, hP2.trans (.sw jO jO jO jO jO), hB.swap hO jO jO jO h34⟩, R, R, R, R⟩ qI (.c 9 R <| zd _) (.c 0 R <| .c 1 R <| .c 2 R <| .c 3 R <| .c 8 R <| zd _) qD qD qF))
   try simp only [dq] at h34
   have hend := hB.stop hO jO jO (fun _ => h34)
   refine y4 (zG (zG (y5 (zS (z8 (zt (E R R (zT R R R jO ?_))))))))
   exact V R R (I (zV ⟨i + 1, _, ⟨by omega, hP2, hend⟩, R, R, R, R⟩ qI (.c 8 R <| zd _) (.c 0 R <| .c 1 R <| .c 2 R <| .c 3 R <| zd _) qD qD qF))
  have hend := hB.stop hO jO jO (fun e => absurd e jO)
  refine xg qk qk (E R R (E R R (yy R R R (E R R (zE (t := 21) R (show _ = Value.bool false from congrArg Value.bool (decide_eq_false jO)) ?_)))))
  refine zw 21 false R R R R R jD (zw 21 false R R R R R jD (zw 21 false R R R R R jD (zw 21 false R R R R R jD (zw 21 false R R R R R jD (zw 21 false R R R R R jD (zw 21 false R R R R R jD (zw 21 false R R R R R jD (zw 21 false R R R R R jD (zw 21 false R R R R R jD (zw 21 false R R R R R jD (zw 21 false R R R R R jD (yg R R R (yY (z8 (zR R R ?_)))))))))))))))
  refine y4 (zG (zG (y5 (zS (z8 (zt (E R R (zT R R R jO ?_))))))))
  exact V R R (I (zV ⟨i + 1, _, ⟨by omega, hP2, hend⟩, R, R, R, R⟩ qI (.c 8 R <| zd _) (.c 0 R <| .c 1 R <| .c 2 R <| .c 3 R <| zd _) qD qD qF))
 try simp only [dq] at h14
 exact y4 (zG (zG (y5 (yS (by simp) R ⟨ys, R, hP, fun p q h1 h2 h3 => hS p q h1 h2 jO, R, R⟩ qD qF))))
theorem pdqw_spec {a : Option Addr} {g len cap : Nat} {cf : ID32 → ID32 → Int} {xs : List ID32} (hO : SWO cf) (hI : ∀ x : ID32, ¬ cf x x < 0) (hc : ∀ x y : ID32, Spec Tryz.prog g [.agg (iC x).toArray, .agg (iC y).toArray] [] [] (fun u D' M' => u = .int .i64 (cf x y) ∧ D' = [] ∧ M' = [])) {ia ib lm : Nat} (hab : ia ≤ ib) (hib : ib ≤ len) (hb : len ≤ 12) : Spec Tryz.prog 90 [.slice a len cap, .int .i64 (ia : Int), .int .i64 (ib : Int), .int .i64 (lm : Int), fnV g []] [] [own 32 38 a len cap ((xs).map iC)] (fun v D' M' => ∃ (ys : List ID32), v = .tuple #[] ∧ (PI ia ib xs ys) ∧ (SrtP cf ys ia ib) ∧ D' = [] ∧ M' = [own 32 38 a len cap ((ys).map iC)]) := by
 refine zv (n := 148) Tryz.func90 ?_
 intro σ D M
 refine xo qM (fun hl hcc => ?_)
 rw [List.length_map] at hl
 refine O (V R R (I (O (V R R (I (zD (y8 (fun K' D' M' μ => K' = [(1, .int .i64 (ia : Int)), (2, .int .i64 (ib : Int)), (3, .int .i64 (lm : Int)), (10, .bool true), (11, .bool true)] ∧ D' = [] ∧ M' = [own 32 38 a len cap ((xs).map iC)] ∧ μ = 0) (.c 0 R <| .c 4 R <| zd _) (⟨R, R, R, R⟩) (.c 1 R <| .c 2 R <| .c 3 R <| .c 10 R <| .c 11 R <| zd _) qD qS ?_)))))))
 rintro K1 D1 M1 m1 ⟨rfl, rfl, rfl, rfl⟩
 refine zM qA qA qA ?_
 refine zD (O (E R R (E R R (yt R R R jO ?_))))
 refine zE (t := 23) (u := .int .i64 ((ib - ia : Nat) : Int)) R (congrArg (Value.int .i64) jO) ?_
 refine V R R (I (ze (O (E R R (L.leI R R R (I (yV R (decide_eq_true jO) ?_)))))))
 refine O (E R R (E R R (E R R (E R R (zp R (ev4 R R R R) qD qS (insw_spec (a := a) hO hI hc (xs := xs) (ia := ia) (ib := ib) jO jO jO) ?_)))))
 rintro _ _ _ ⟨ys, rfl, hPi, hSi, rfl, rfl⟩
 refine zm qA qA ?_
 exact I (zo (zL (yv (zL (yv (yS (by simp) R ⟨ys, R, hPi, hSi, R, R⟩ qD qF))))))
theorem sortw_spec {a : Option Addr} {g len cap : Nat} {cf : ID32 → ID32 → Int} {xs : List ID32} (hO : SWO cf) (hI : ∀ x : ID32, ¬ cf x x < 0) (hc : ∀ x y : ID32, Spec Tryz.prog g [.agg (iC x).toArray, .agg (iC y).toArray] [] [] (fun u D' M' => u = .int .i64 (cf x y) ∧ D' = [] ∧ M' = [])) (hb : len ≤ 12) : Spec Tryz.prog 48 [.slice a len cap, fnV g []] [] [own 32 38 a len cap ((xs).map iC)] (fun v D' M' => ∃ (ys : List ID32), v = .tuple #[] ∧ (ys.Perm xs) ∧ (SrtP cf ys 0 len) ∧ D' = [] ∧ M' = [own 32 38 a len cap ((ys).map iC)]) := by
 refine zv (n := 14) Tryz.func48 ?_
 intro σ D M
 refine O (E R R (yb R yh R (V R R (I (zt (E R R (E R R (E R R (L.convU R xi xI R qI ?_)))))))))
 refine zp R (ev1 R) qD qS (lenw_spec (n := len) jO) ?_
 rintro _ _ _ ⟨k, rfl, hk, hk16, rfl, rfl⟩
 refine zm qA qA ?_
 refine E R R (zp R (ev5 R R R R R) qD qS (pdqw_spec (a := a) hO hI hc (ia := 0) (ib := len) (lm := k) jO jO hb) ?_)
 rintro _ _ _ ⟨ys, rfl, hP, hS, rfl, rfl⟩
 refine zm qA qA ?_
 exact zu (yS (by simp) R ⟨ys, R, hP.perm, hS, R, R⟩ qD qF)
end Cv
