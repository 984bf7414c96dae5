/-
  The walks: the hash of one block.
-/
import Derived.Test.YtncgoodlhmpfcaaGreatFA11
set_option linter.all false
set_option maxHeartbeats 400000
set_option maxRecDepth 10000
namespace Cv
open Go Go.Proofs

theorem rot32 {x : BitVec 32} {n : Nat} (h1 : 1 ≤ n) (h2 : n ≤ 31) : Spec Tryz.prog 234 [W x, .int .i64 (-(n : Int))] [] [] (fun v D' M' => v = W (rotr x n) ∧ D' = [] ∧ M' = []) := by
 refine zv (n := 17) Tryz.func234 ?_
 intro σ D M
 refine O (V R R (I (O (E R R (L.convI R xi xI R ?_)))))
 refine L.andI R R R ?_
 rw [rot_s h1 h2]
 refine V R R (I (O (E R R (E R R (L.shlW R R R R ?_)))))
 refine E R R (E R R (L.subU R R R qI ?_))
 refine L.shrW R R R (show _ = ((n : Nat) : Int) by omega) ?_
 refine L.orW R R R ?_
 exact V R R (I (zo (zy R R ⟨R, R, R⟩ qD qF)))
theorem turn_spec {x : BitVec 32} {n : Nat} (h1 : 1 ≤ n) (h2 : n ≤ 31) : Spec Tryz.prog 223 [W x, .int .i64 (n : Int)] [] [] (fun v D' M' => v = W (rotr x n) ∧ D' = [] ∧ M' = []) := by
 refine zv (n := 9) Tryz.func223 ?_
 intro σ D M
 refine O (V R R (I (O (E R R (E R R (L.negN R R qI ?_))))))
 refine zp R (ev2 R R) qD qS (rot32 qT qT) ?_
 rintro _ _ _ ⟨rfl, rfl, rfl⟩
 refine zm qA qA ?_
 exact V R R (I (zo (zy R R ⟨R, R, R⟩ qD qF)))
theorem rounds_spec   : Spec Tryz.prog 221 [] [] [] (fun v D' M' => v = .agg (ks.map W).toArray ∧ D' = [] ∧ M' = []) := by
 refine zv (n := 2) Tryz.func221 ?_
 intro σ D M
 refine O (zC R ze316 (fun b0 => ?_))
 refine I (O (yq R bua316 (zF R R R <| zF R R R <| zF R R R <| zF R R R <| zF R R R <| zF R R R <| zF R R R <| zF R R R <| zF R R R <| zF R R R <| zF R R R <| zF R R R <| zF R R R <| zF R R R <| zF R R R <| zF R R R <| zF R R R <| zF R R R <| zF R R R <| zF R R R <| zF R R R <| zF R R R <| zF R R R <| zF R R R <| zF R R R <| zF R R R <| zF R R R <| zF R R R <| zF R R R <| zF R R R <| zF R R R <| zF R R R <| zF R R R <| zF R R R <| zF R R R <| zF R R R <| zF R R R <| zF R R R <| zF R R R <| zF R R R <| zF R R R <| zF R R R <| zF R R R <| zF R R R <| zF R R R <| zF R R R <| zF R R R <| zF R R R <| zF R R R <| zF R R R <| zF R R R <| zF R R R <| zF R R R <| zF R R R <| zF R R R <| zF R R R <| zF R R R <| zF R R R <| zF R R R <| zF R R R <| zF R R R <| zF R R R <| zF R R R <| zF R R R <| zQ (out := []) R) ?_))
 refine zz ag316 R R qL qO qU qW ?_
 exact I (zo (xt R ag316 R qN ⟨R, R, R⟩ qD qF))
theorem spread_spec {a : Option Addr} {cap : Nat} {b : List UInt8}  : Spec Tryz.prog 222 [.slice a 64 cap] [rsl 1 a 64 cap (b.map yr)] [] (fun v D' M' => v = .agg ((spr b 64).map W).toArray ∧ D' = [] ∧ M' = []) := by
 refine zv (n := 83) Tryz.func222 ?_
 intro σ D M
 refine yU qM (fun hbl hcap => ?_)
 rw [List.length_map] at hbl
 refine O (zC R ze316 (fun b2 => ?_))
 refine I (O (zC R ze316 (fun b3 => ?_)))
 refine I (ze (O (E R R (I (zD (y3 qP (show cl b3 316 (List.map W (List.replicate 64 0)) = cl b3 316 (List.map W (spr b 0)) from R) ?_))))))
 refine y8 (fun K' D' M' μ => ∃ (k : Nat), (k ≤ 64) ∧ K' = [(9, .int .i64 k)] ∧ D' = [] ∧ M' = [cl b3 316 ((spr b k).map W)] ∧ μ = 64 - k) (.c 0 R <| .c 2 R <| .c 3 R <| zd _) (⟨0, qT, R, R, R, R⟩) (.c 9 R <| zd _) qD qS ?_
 rintro K1 D1 M1 m1 ⟨k, hk, rfl, rfl, rfl, rfl⟩
 refine zM qA qA qA ?_
 have hsl := spr_len b k
 refine O (zW R R R (I (ze (zA R (fun h10 => ?_) (fun h10 => ?_)))))
 ·try simp only [dq] at h10
  refine zq (z8 (ze (zD (O (E R R (V R R (I (ze (O (E R R (zW R R R (I (zA R (fun h13 => ?_) (fun h13 => ?_))))))))))))))
  ·try simp only [dq] at h13
   refine ze (O (E R R (E R R (L.mulN R R R jO ?_))))
   refine E R R (L.mulN R R R jO ?_)
   refine zT R R R jO ?_
   refine L.sliceR R yz sz5 R (Bd.at (x := 4 * k) R jR) (Bd.at (x := 4 * k + 4) R jR) qM qI qI qI (fun a20 => ?_)
   rw [show 4 * k + 4 - 4 * k = 4 by omega]
   refine yb R yz R (E R R (I (zD (y3 qP (show cl b3 316 (List.map W (spr b k)) = cl b3 316 (List.map W ((spr b k).set k (acc b k (gd (spr b k) k) 0))) from by rw [acc_0, set_gd]) ?_))))
   refine y8 (fun K' D' M' μ => ∃ (j : Nat), (j ≤ 4) ∧ K' = [(22, .int .i64 j)] ∧ D' = [] ∧ M' = [cl b3 316 (((spr b k).set k (acc b k (gd (spr b k) k) j)).map W)] ∧ μ = 4 - j) (.c 0 R <| .c 2 R <| .c 3 R <| .c 4 R <| .c 9 R <| .c 20 R <| .c 21 R <| zd _) (⟨0, qT, R, R, R, R⟩) (.c 22 R <| zd _) qD qS ?_
   rintro K1 D1 M1 m1 ⟨j, hj, rfl, rfl, rfl, rfl⟩
   refine zM qA qA qA ?_
   refine O (zW R R R (I (ze (zA R (fun h23 => ?_) (fun h23 => ?_)))))
   ·try simp only [dq] at h23
    refine zq (z8 (ze (zD (ze ?_))))
    have hr : (((b.map yr).drop (4 * k)).take 4)[j]? = some (yr (gd b (4 * k + j))) := by
     rw [List.getElem?_take_of_lt jO, List.getElem?_drop]; exact yJ (y9 jO)
    refine zt (yP R yz sz5 R R qM R qG (fun b24 o24 => ?_))
    refine zf R sc5 R qC ?_
    refine V R R (I (zt (E R R (E R R (xe R xD xf R R R qI ?_)))))
    refine zf R xj R qC ?_
    refine L.shlW R R R R ?_
    refine E R R (L.convYW R zX Tryz.underlying240 R ?_)
    refine L.orW R R R ?_
    refine xe R xD xf R R R qI ?_
    refine yj xj R R R qU qE ?_
    refine zu (y3 qP (B := cl b3 316 (((spr b k).set k (acc b k (gd (spr b k) k) (j + 1))).map W)) (by rw [acc_s jO, gd_set jO, if_pos R, List.set_set]; rfl) ?_)
    refine zS (z8 (zt (zT R R R jO ?_)))
    exact E R R (I (zV ⟨j + 1, qT, R, R, R, R⟩ qI (.c 22 R <| zd _) (.c 0 R <| .c 2 R <| .c 3 R <| .c 4 R <| .c 9 R <| .c 20 R <| .c 21 R <| zd _) qD qD qF))
   try simp only [dq] at h23
   obtain rfl : j = 4 := by omega
   refine y3 qP (show cl b3 316 (List.map W ((spr b k).set k (acc b k (gd (spr b k) k) 4))) = cl b3 316 (List.map W (spr b (k + 1))) from by rw [spr, if_pos jO]) ?_
   refine y4 (zG (zG (y5 (z8 (y4 (zG (y5 (z8 (zt (zT R R R jO ?_))))))))))
   exact E R R (I (zV ⟨k + 1, qT, R, R, R, R⟩ qI (.c 9 R <| zd _) (.c 0 R <| .c 2 R <| .c 3 R <| zd _) qD qD qF))
  try simp only [dq] at h13
  refine zq (z8 (ze (xg qk qk (E R R (yt R R R jO ?_)))))
  refine xe (i := k - 15) R xD xf R R jR qI ?_
  refine zf R xj R qC ?_
  refine E R R (yt R R R jO ?_)
  refine xe (i := k - 2) R xD xf R R jR qI ?_
  refine zf R xj R qC ?_
  refine V R R (V R R (yY (z8 (ze (y7 (clsL [1, 1, 1, 0, 0, 1, 1, 0, 0, 1, 0, 2]) qk ?_)))))
  refine z9 0 R R (E R R (z7 (z9 1 R R (E R R (z7 (z9 2 R R (yt R R R jO ?_)))))))
  refine z7 (z9 5 R R (E R R (z7 (z9 6 R R (yt R R R jO ?_)))))
  refine z7 (zY (i := 3) R R R R qk qk qk qk R qD qF ?_)
  refine xe (i := k - 16) R xD xf R R jR qI ?_
  refine z7 (zY (i := 4) R R R R qk qk qk qk R qD qF ?_)
  refine zf R xj R qC ?_
  refine z7 (zY (i := 7) R R R R qk qk qk qk R qD qF ?_)
  refine xe (i := k - 7) R xD xf R R jR qI ?_
  refine z7 (zY (i := 8) R R R R qk qk qk qk R qD qF ?_)
  refine zf R xj R qC ?_
  refine z7 (z9 9 R R (L.addW R R R ?_))
  refine z7 (zY (i := 10) R R R R qk qk qk qk R qD qF ?_)
  refine xe R xD xf R R R qI ?_
  refine z7 (zi 11 R (yj xj R R R qU qE ?_))
  refine zh R qD ?_
  refine zN qk ?_
  refine z8 (ze (y7 (clsL [1, 0, 0, 1, 0, 1, 0, 1, 1, 1, 1, 1, 0, 2]) qk ?_))
  refine z9 0 R R (E R R (z7 (z9 3 R R (E R R (z7 (z9 5 R R (E R R (z7 (z9 8 R R (E R R (z7 (z9 9 R R (L.shrW R R R R ?_)))))))))))))
  refine z7 (zY (i := 1) R R R R qk qk qk qk R qD qF ?_)
  refine xe R xD xf R R R qI ?_
  refine z7 (zY (i := 2) R R R R qk qk qk qk R qD qF ?_)
  refine zf R xj R qC ?_
  refine z7 (zi 4 R (zH R (ev2 R R) qD qS (turn_spec (n := 7) jO jO) jF ?_))
  refine yH R qD qF ?_
  refine zi 6 R (zH R (ev2 R R) qD qS (turn_spec (n := 18) jO jO) jF ?_)
  refine yH R qD qF ?_
  refine z9 7 R R (L.xorW R R R ?_)
  refine z7 (z9 10 R R (L.xorW R R R ?_))
  refine z7 (z9 11 R R (L.addW R R R ?_))
  refine z7 (zY (i := 12) R R R R qk qk qk qk R qD qF ?_)
  refine xe R xD xf R R R qI ?_
  refine z7 (zi 13 R (yj xj R R R qU qE ?_))
  refine zh R qD ?_
  refine zN qk ?_
  refine z8 (y7 (clsL [1, 0, 0, 1, 0, 1, 0, 1, 1, 1, 1, 1, 0, 2]) qk ?_)
  refine z9 0 R R (E R R (z7 (z9 3 R R (E R R (z7 (z9 5 R R (E R R (z7 (z9 8 R R (E R R (z7 (z9 9 R R (L.shrW R R R R ?_)))))))))))))
  refine z7 (zY (i := 1) R R R R qk qk qk qk R qD qF ?_)
  refine xe R xD xf R R R qI ?_
  refine z7 (zY (i := 2) R R R R qk qk qk qk R qD qF ?_)
  refine zf R xj R qC ?_
  refine z7 (zi 4 R (zH R (ev2 R R) qD qS (turn_spec (n := 17) jO jO) jF ?_))
  refine yH R qD qF ?_
  refine zi 6 R (zH R (ev2 R R) qD qS (turn_spec (n := 19) jO jO) jF ?_)
  refine yH R qD qF ?_
  refine z9 7 R R (L.xorW R R R ?_)
  refine z7 (z9 10 R R (L.xorW R R R ?_))
  refine z7 (z9 11 R R (L.addW R R R ?_))
  refine z7 (zY (i := 12) R R R R qk qk qk qk R qD qF ?_)
  refine xe R xD xf R R R qI ?_
  refine z7 (zi 13 R (yj xj R R R qU qE ?_))
  refine zh R qD ?_
  refine zN qk ?_
  refine y3 qP (B := cl b3 316 ((spr b (k + 1)).map W)) (by rw [spr, if_neg jO]; simp only [List.set_set, gd_set, hsl, List.length_set, show k < 64 by omega, if_true]; rfl) ?_
  refine zS (z8 (zt (zT R R R jO ?_)))
  exact E R R (I (zV ⟨k + 1, qT, R, R, R, R⟩ qI (.c 9 R <| zd _) (.c 0 R <| .c 2 R <| .c 3 R <| zd _) qD qD qF))
 try simp only [dq] at h10
 obtain rfl : k = 64 := by omega
 refine y4 (zG (zG (y5 (z8 (O (zx R ag316 R qN ?_))))))
 refine zz ag316 R R qL qO qU qW ?_
 exact I (zo (xt R ag316 R qN ⟨R, R, R⟩ qD qF))
theorem block_spec {s : Nat} {a : Option Addr} {cap : Nat} {b : List UInt8} {h : List W32} {tl : List Value} (hl : h.length = 8) : Spec Tryz.prog 184 [.pointer (some ⟨s, 0, none⟩), .slice a 64 cap] [rsl 1 a 64 cap (b.map yr)] [cl s 276 (h.map W ++ tl)] (fun v D' M' => v = .tuple #[] ∧ D' = [] ∧ M' = [cl s 276 ((blockF h b).map W ++ tl)]) := by
 refine zv (n := 111) Tryz.func184 ?_
 intro σ D M
 have hkl : ks.length = 64 := rfl
 refine ze (yx (fun K' D' M' => ∃ (b4 b5 : Nat), K' = [(4, .pointer (some ⟨b4, 0, none⟩)), (5, .pointer (some ⟨b5, 0, none⟩))] ∧ D' = [] ∧ M' = [cl b4 274 (h.map W), cl b5 316 (ks.map W)]) (M0 := []) (.c 0 R <| .c 1 R <| zd _) qS ?_ ?_)
 ·refine y7 (clsL [1, 0, 1, 0, 0, 0, 0, 2, 2]) qk ?_
  refine z9 0 R R (E R R (z7 (yE (i := 1) R R qk qk qk qk R qD qF R ?_)))
  refine z9 2 R R (zg R fo276_0 R ?_)
  refine z7 (zY (i := 3) R R R R qk qk qk qk R qD qF ?_)
  refine zx R ag274 R qN ?_
  refine z7 (yA (is := [4, 5, 6]) qk jD (zU R ?_ <| zU R ?_ <| zU R ?_ <| yB) )
  ·refine zp R (xu) qD qS (rounds_spec ) ?_
   rintro _ _ _ ⟨rfl, rfl, rfl⟩
   refine zm qA qA ?_
   refine yH R qD qF ?_
   refine yA (is := [5, 6]) qk jD (zU R ?_ <| zU R ?_ <| yB) 
   ·refine zC R ze274 (fun b4 => ?_)
    refine yH R qD qF ?_
    refine zi 6 R (zC R ze316 (fun b5 => ?_))
    refine yH R qD qF ?_
    refine zi 7 R (zz ag274 R R qL qO qU qW ?_)
    refine zh R qD ?_
    refine zi 8 R (zz ag316 R R qL qO qU qW ?_)
    refine zh R qD ?_
    refine zN qk ?_
    exact z8 (zK ⟨_, _, R, R, R⟩ (.c 4 R <| .c 5 R <| zd _) (.c 0 R <| .c 1 R <| zd _) qD qD qF)
   refine zC R ze316 (fun b5 => ?_)
   refine yH R qD qF ?_
   refine zi 5 R (zC R ze274 (fun b4 => ?_))
   refine yH R qD qF ?_
   refine zi 7 R (zz ag274 R R qL qO qU qW ?_)
   refine zh R qD ?_
   refine zi 8 R (zz ag316 R R qL qO qU qW ?_)
   refine zh R qD ?_
   refine zN qk ?_
   exact z8 (zK ⟨_, _, R, R, R⟩ (.c 4 R <| .c 5 R <| zd _) (.c 0 R <| .c 1 R <| zd _) qD qD qF)
  ·refine zC R ze274 (fun b4 => ?_)
   refine yH R qD qF ?_
   refine yA (is := [4, 6]) qk jD (zU R ?_ <| zU R ?_ <| yB) 
   ·refine zp R (xu) qD qS (rounds_spec ) ?_
    rintro _ _ _ ⟨rfl, rfl, rfl⟩
    refine zm qA qA ?_
    refine yH R qD qF ?_
    refine zi 6 R (zC R ze316 (fun b5 => ?_))
    refine yH R qD qF ?_
    refine zi 7 R (zz ag274 R R qL qO qU qW ?_)
    refine zh R qD ?_
    refine zi 8 R (zz ag316 R R qL qO qU qW ?_)
    refine zh R qD ?_
    refine zN qk ?_
    exact z8 (zK ⟨_, _, R, R, R⟩ (.c 4 R <| .c 5 R <| zd _) (.c 0 R <| .c 1 R <| zd _) qD qD qF)
   refine zC R ze316 (fun b5 => ?_)
   refine yH R qD qF ?_
   refine zi 4 R (zp R (xu) qD qS (rounds_spec ) ?_)
   rintro _ _ _ ⟨rfl, rfl, rfl⟩
   refine zm qA qA ?_
   refine yH R qD qF ?_
   refine zi 7 R (zz ag274 R R qL qO qU qW ?_)
   refine zh R qD ?_
   refine zi 8 R (zz ag316 R R qL qO qU qW ?_)
   refine zh R qD ?_
   refine zN qk ?_
   exact z8 (zK ⟨_, _, R, R, R⟩ (.c 4 R <| .c 5 R <| zd _) (.c 0 R <| .c 1 R <| zd _) qD qD qF)
  refine zC R ze316 (fun b5 => ?_)
  refine yH R qD qF ?_
  refine yA (is := [4, 5]) qk jD (zU R ?_ <| zU R ?_ <| yB) 
  ·refine zp R (xu) qD qS (rounds_spec ) ?_
   rintro _ _ _ ⟨rfl, rfl, rfl⟩
   refine zm qA qA ?_
   refine yH R qD qF ?_
   refine zi 5 R (zC R ze274 (fun b4 => ?_))
   refine yH R qD qF ?_
   refine zi 7 R (zz ag274 R R qL qO qU qW ?_)
   refine zh R qD ?_
   refine zi 8 R (zz ag316 R R qL qO qU qW ?_)
   refine zh R qD ?_
   refine zN qk ?_
   exact z8 (zK ⟨_, _, R, R, R⟩ (.c 4 R <| .c 5 R <| zd _) (.c 0 R <| .c 1 R <| zd _) qD qD qF)
  refine zC R ze274 (fun b4 => ?_)
  refine yH R qD qF ?_
  refine zi 4 R (zp R (xu) qD qS (rounds_spec ) ?_)
  rintro _ _ _ ⟨rfl, rfl, rfl⟩
  refine zm qA qA ?_
  refine yH R qD qF ?_
  refine zi 7 R (zz ag274 R R qL qO qU qW ?_)
  refine zh R qD ?_
  refine zi 8 R (zz ag316 R R qL qO qU qW ?_)
  refine zh R qD ?_
  refine zN qk ?_
  exact z8 (zK ⟨_, _, R, R, R⟩ (.c 4 R <| .c 5 R <| zd _) (.c 0 R <| .c 1 R <| zd _) qD qD qF)
 rintro _ _ _ ⟨b4, b5, rfl, rfl, rfl⟩
 refine zM qA qA qA ?_
 refine z8 (ze (O (E R R (zp R (ev1 R) qD qS (spread_spec ) ?_))))
 rintro _ _ _ ⟨rfl, rfl, rfl⟩
 refine zm qA qA ?_
 refine E R R (I (zD (y3 qP (show cl b4 274 (List.map W h) = cl b4 274 (List.map W (rnds h (spr b 64) 0)) from R) ?_)))
 have hsl := spr_len b 64
 refine y8 (fun K' D' M' μ => ∃ (k : Nat), (k ≤ 64) ∧ K' = [(20, .int .i64 k)] ∧ D' = [] ∧ M' = [cl b4 274 ((rnds h (spr b 64) k).map W)] ∧ μ = 64 - k) (.c 0 R <| .c 4 R <| .c 5 R <| .c 19 R <| zd _) (⟨0, qT, R, R, R, R⟩) (.c 20 R <| zd _) qD qS ?_
 rintro K1 D1 M1 m1 ⟨k, hk, rfl, rfl, rfl, rfl⟩
 refine zM qA qA qA ?_
 refine O (zW R R R (I (ze (zA R (fun h21 => ?_) (fun h21 => ?_)))))
 ·try simp only [dq] at h21
  obtain ⟨v0, v1, v2, v3, v4, v5, v6, v7, hv⟩ := len8 (rnds_len (ws := spr b 64) hl k)
  refine y3 qP (show cl b4 274 (List.map W (rnds h (spr b 64) k)) = cl b4 274 [W v0, W v1, W v2, W v3, W v4, W v5, W v6, W v7] from by rw [hv]; rfl) ?_
  refine zq (z8 (ze (zD (O (E R R (L.indexV R xD xj R R R qI (by first | exact yJ (y9 qL) | assumption | rfl) ?_))))))
  refine V R R (V R R (I (ze (xg qk qk (xe R xv xf R R R qI ?_)))))
  refine zf R xj R qC ?_
  refine xe R xv xf R R R qI ?_
  refine zf R xj R qC ?_
  refine V R R (V R R (yY (z8 (ze (xg qk qk (xe R xv xf R R R qI ?_))))))
  refine zf R xj R qC ?_
  refine E R R (xe R xD xf R R R qI ?_)
  refine zf R xj R qC ?_
  refine L.addW R R R ?_
  refine E R R (L.addW R R R ?_)
  refine V R R (yY (z8 (O (E R R (E R R (zH R (ev2 R R) qD qS (turn_spec (n := 6) jO jO) jF ?_))))))
  refine E R R (zH R (ev2 R R) qD qS (turn_spec (n := 11) jO jO) jF ?_)
  refine L.xorW R R R ?_
  refine E R R (zH R (ev2 R R) qD qS (turn_spec (n := 25) jO jO) jF ?_)
  refine L.xorW R R R ?_
  refine L.addW R R R ?_
  refine V R R (I (O (E R R (E R R (xe R xv xf R R R qI ?_)))))
  refine zf R xj R qC ?_
  refine L.andW R R R ?_
  refine E R R (L.notW R R ?_)
  refine xe R xv xf R R R qI ?_
  refine zf R xj R qC ?_
  refine L.andW R R R ?_
  refine L.orW R R R ?_
  refine L.addW R R R ?_
  refine V R R (I (O (E R R (zH R (ev2 R R) qD qS (turn_spec (n := 2) jO jO) jF ?_))))
  refine E R R (zH R (ev2 R R) qD qS (turn_spec (n := 13) jO jO) jF ?_)
  refine L.xorW R R R ?_
  refine E R R (zH R (ev2 R R) qD qS (turn_spec (n := 22) jO jO) jF ?_)
  refine L.xorW R R R ?_
  refine V R R (I (O (E R R (E R R (xe R xv xf R R R qI ?_)))))
  refine zf R xj R qC ?_
  refine xe R xv xf R R R qI ?_
  refine zf R xj R qC ?_
  refine L.orW R R R ?_
  refine L.andW R R R ?_
  refine xe R xv xf R R R qI ?_
  refine zf R xj R qC ?_
  refine xe R xv xf R R R qI ?_
  refine zf R xj R qC ?_
  refine L.andW R R R ?_
  refine L.orW R R R ?_
  refine L.addW R R R ?_
  refine V R R (I (ze (y7 (clsL [0, 0, 2]) qk ?_)))
  refine zY (i := 0) R R R R qk qk qk qk R qD qF ?_
  refine xB R xv xf R (Bd.at rfl R) xb qI qI ?_
  refine z7 (zY (i := 1) R R R R qk qk qk qk R qD qF ?_)
  refine xB R xv xf R xb (Bd.at rfl R) qI qI ?_
  refine z7 (zi 2 R (L.copyCl R Tryz.underlying320 xf R R R qN qO qU qE ?_))
  refine zh R qD ?_
  refine zN qk ?_
  refine z8 (O (xe R xv xf R R R qI ?_))
  refine zf R xj R qC ?_
  refine E R R (L.addW R R R ?_)
  refine xe R xv xf R R R qI ?_
  refine yj xj R R R qU qE ?_
  refine I (zt (E R R (E R R (L.addW R R R ?_))))
  refine xe R xv xf R R R qI ?_
  refine yj xj R R R qU qE ?_
  refine zu (y3 qP (B := cl b4 274 ((rnds h (spr b 64) (k + 1)).map W)) (by rw [rnds, hv]; rfl) ?_)
  refine zS (z8 (zt (zT R R R jO ?_)))
  exact E R R (I (zV ⟨k + 1, qT, R, R, R, R⟩ qI (.c 20 R <| zd _) (.c 0 R <| .c 4 R <| .c 5 R <| .c 19 R <| zd _) qD qD qF))
 try simp only [dq] at h21
 obtain rfl : k = 64 := by omega
 refine y4 (zG (zG (y5 (z8 (O (E R R (I (zD (y3 qP (show cl s 276 (List.map W h ++ tl) = cl s 276 (List.map W (addS h (rnds h (spr b 64) 64) 0) ++ tl) from R) ?_)))))))))
 refine y8 (fun K' D' M' μ => ∃ (k : Nat), (k ≤ 8) ∧ K' = [(94, .int .i64 k)] ∧ D' = [] ∧ M' = [cl s 276 ((addS h (rnds h (spr b 64) 64) k).map W ++ tl)] ∧ μ = 8 - k) (.c 0 R <| .c 4 R <| zd _) (⟨0, qT, R, R, R, R⟩) (.c 94 R <| zd _) qD qS ?_
 rintro K1 D1 M1 m1 ⟨k, hk, rfl, rfl, rfl, rfl⟩
 refine zM qA qA qA ?_
 have hal : (addS h (rnds h (spr b 64) 64) k).length = 8 := by rw [addS_len]; exact hl
 have hrl : (rnds h (spr b 64) 64).length = 8 := rnds_len hl _
 refine O (zW R R R (I (ze (zA R (fun h95 => ?_) (fun h95 => ?_)))))
 ·try simp only [dq] at h95
  refine zq (z8 (ze (zD (O (E R R (V R R (I (y7 (clsL [1, 1, 0, 1, 0, 0, 1, 0, 0, 1, 0, 1, 0, 2]) qk ?_))))))))
  refine z9 0 R R (E R R (z7 (z9 1 R R (E R R (z7 (z9 6 R R (E R R (z7 (yE (i := 2) R R qk qk qk qk R qD qF R ?_)))))))))
  refine z9 3 R R (zg R fo276_0 R ?_)
  refine z7 (zY (i := 4) R R R R qk qk qk qk R qD qF ?_)
  refine xe R xv xf R R R qI ?_
  refine z7 (zY (i := 5) R R R R qk qk qk qk R qD qF ?_)
  refine zf R xj R qC ?_
  refine z7 (zY (i := 7) R R R R qk qk qk qk R qD qF ?_)
  refine xe R xv xf R R R qI ?_
  refine z7 (zY (i := 8) R R R R qk qk qk qk R qD qF ?_)
  refine zf R xj R qC ?_
  refine z7 (z9 9 R R (L.addW R R R ?_))
  refine z7 (yE (i := 10) R R qk qk qk qk R qD qF R ?_)
  refine z9 11 R R (zg R fo276_0 R ?_)
  refine z7 (zY (i := 12) R R R R qk qk qk qk R qD qF ?_)
  refine xe R xv xf R R R qI ?_
  refine z7 (zi 13 R (yj xj R R R qU qE ?_))
  refine zh R qD ?_
  refine zN qk ?_
  refine y3 qP (B := cl s 276 ((addS h (rnds h (spr b 64) 64) (k + 1)).map W ++ tl)) (by rw [addS]) ?_
  refine zS (z8 (zt (zT R R R jO ?_)))
  exact E R R (I (zV ⟨k + 1, qT, R, R, R, R⟩ qI (.c 94 R <| zd _) (.c 0 R <| .c 4 R <| zd _) qD qD qF))
 try simp only [dq] at h95
 obtain rfl : k = 8 := by omega
 refine y3 qP (show cl s 276 (List.map W (addS h (rnds h (spr b 64) 64) 8) ++ tl) = cl s 276 (List.map W (blockF h b) ++ tl) from R) ?_
 exact y4 (zG (zG (y5 (yS (by simp) R ⟨R, R, R⟩ qD qF))))
end Cv
set_option maxRecDepth 10000
namespace Cv
open Go Go.Proofs

theorem hnew_spec   : Spec Tryz.prog 122 [] [] [] (fun v D' M' => ∃ (s : Nat), v = .pointer (some ⟨s, 0, none⟩) ∧ D' = [] ∧ M' = [cl s 276 ((shH (([] : List UInt8))).map W ++ [.slice none 0 0, .int .u64 (((([] : List UInt8)).length : Nat) : Int)]), own 1 5 none (0) 0 ((shP (([] : List UInt8))).map yr)]) := by
 refine zv (n := 4) Tryz.func122 ?_
 intro σ D M
 refine O (V R R (I (O (yq R bua274 (zF R R R <| zF R R R <| zF R R R <| zF R R R <| zF R R R <| zF R R R <| zF R R R <| zF R R R <| zQ (out := []) R) ?_))))
 refine yq R bu276 (yG R R j1 (Nat.le_of_ble_eq_true R) qR <| zQ (out := [Value.slice none 0 0, .int .u64 0]) R) ?_
 refine y6 R R R (fun b3 => ?_)
 refine V R R (zu (y3 (B := cl b3 276 ((shH ([] : List UInt8)).map W ++ [.slice none 0 0, .int .u64 ((([] : List UInt8).length : Nat) : Int)])) qP (by rw [shH_nil]; rfl) ?_))
 refine yM (sz := 1) (e := 5) ?_
 refine y3 (A := own 1 5 none 0 0 []) (B := own 1 5 none (0) 0 ((shP ([] : List UInt8)).map yr)) qP (by rw [shP_nil]; rfl) ?_
 exact z8 (zo (zy R R ⟨_, R, R, R⟩ qD qF))
theorem hwrite_spec {s : Nat} {a a2 : Option Addr} {len cap k c2 : Nat} {m : List UInt8} {ls : List (List UInt8)} (hm : m.length + ls.flatten.length ≤ 70368744177664) (hkb : ls.length ≤ 4611686018427387904) : Spec Tryz.prog 123 [.pointer (some ⟨s, 0, none⟩), .slice a2 k c2] [rsl 1 a2 k c2 (ls.map ys)] [cl s 276 ((shH (m)).map W ++ [.slice a len cap, .int .u64 (((m).length : Nat) : Int)]), own 1 5 a (len) cap ((shP (m)).map yr)] (fun v D' M' => ∃ (a' : Option Addr) (len' cap' : Nat), v = .pointer (some ⟨s, 0, none⟩) ∧ D' = [] ∧ M' = [cl s 276 ((shH (m ++ ls.flatten)).map W ++ [.slice a' len' cap', .int .u64 (((m ++ ls.flatten).length : Nat) : Int)]), own 1 5 a' (len') cap' ((shP (m ++ ls.flatten)).map yr)]) := by
 refine zv (n := 55) Tryz.func123 ?_
 intro σ D M
 refine yU qM (fun hk2 _ => ?_)
 rw [List.length_map] at hk2
 refine O (V R R (I (ze (O (E R R (yb R xp R (E R R (I (zD (y8 (fun K' D' M' μ => ∃ (j : Nat) (mm : List UInt8) (a1 : Option Addr) (len1 cap1 : Nat), (j ≤ ls.length ∧ mm = m ++ (ls.take j).flatten) ∧ K' = [(9, .int .i64 j)] ∧ D' = [] ∧ M' = [cl s 276 ((shH (mm)).map W ++ [.slice a1 len1 cap1, .int .u64 (((mm).length : Nat) : Int)]), own 1 5 a1 (len1) cap1 ((shP (mm)).map yr)] ∧ μ = ls.length - j) (.c 0 R <| .c 7 R <| .c 8 R <| zd _) (⟨0, m, a, len, cap, ⟨by omega, by simp⟩, R, R, R, R⟩) (.c 9 R <| zd _) qD qS ?_))))))))))
 rintro K1 D1 M1 m1 ⟨j, mm, a1, len1, cap1, ⟨hj, hmm⟩, rfl, rfl, rfl, rfl⟩
 refine zM qA qA qA ?_
 have hsh := sh_len mm
 have htk := take_flat_le ls j
 have hmml : mm.length = m.length + (ls.take j).flatten.length := by rw [hmm]; simp
 refine xo qM (fun hol hoc => ?_)
 rw [List.length_map] at hol
 have hsh1 := hsh.1
 refine O (zW R R R (I (ze (zA R (fun h10 => ?_) (fun h10 => ?_)))))
 ·try simp only [dq] at h10
  have hlj := y9 (l := ls) (i := j) jO
  have hls : (ls.take (j + 1)).flatten.length ≤ ls.flatten.length := take_flat_le ls (j + 1)
  rw [take_flat_s jO, List.length_append] at hls
  refine zq (z8 (ze (zD (O (yP R xp sz9 R R qM R qG (fun b11 o11 => ?_))))))
  refine zf R sc9 R qC ?_
  refine V R R (I (O (E R R (zJ R R ?_))))
  refine zg R fo276_2 R ?_
  refine zf R sc209 R qC ?_
  refine E R R (yL R ye R (L.convU R xi xM R qI ?_))
  refine L.addU R R R qI ?_
  refine zJ R R ?_
  refine zg R fo276_2 R ?_
  refine yj sc209 R R R qU qE ?_
  refine zu (y3 qP (show cl s 276 ((shH mm).map W ++ [.slice a1 len1 cap1, .int .u64 (((mm.length : Nat) : Int) + (((gd ls j).length : Nat) : Int))]) = cl s 276 ((shH mm).map W ++ [.slice a1 len1 cap1, .int .u64 (((mm ++ gd ls j).length : Nat) : Int)]) from by rw [List.length_append]; rfl) ?_)
  refine z8 (O (E R R (E R R (zJ R R ?_))))
  refine zg R xq R ?_
  refine zf R yZ R qC ?_
  refine E R R (L.appendS R yz ye el5 R R qP qI (fun a29 c29 => ?_))
  refine zJ R R ?_
  refine zg R xq R ?_
  refine yj yZ R R R qU qE ?_
  refine I (zD (yp a29 ((shP mm ++ gd ls j).map yr) qP (by rw [List.map_append]) ?_))
  refine y8 (fun K' D' M' μ => ∃ (h : List W32) (p : List UInt8) (a3 : Option Addr) (len3 cap3 : Nat), (eat h p = (shH (mm ++ gd ls j), shP (mm ++ gd ls j)) ∧ h.length = 8) ∧ K' = [] ∧ D' = [] ∧ M' = [cl s 276 ((h).map W ++ [.slice a3 len3 cap3, .int .u64 (((mm ++ gd ls j).length : Nat) : Int)]), own 1 5 a3 (len3) cap3 ((p).map yr)] ∧ μ = p.length) (.c 0 R <| .c 7 R <| .c 8 R <| .c 9 R <| zd _) (⟨shH mm, shP mm ++ gd ls j, _, _, _, ⟨sh_append _ _, hsh.1⟩, R, R, R, R⟩) (zd _) qD qS ?_
  rintro K1 D1 M1 m1 ⟨h, p, a3, len3, cap3, ⟨hep, hhl⟩, rfl, rfl, rfl, rfl⟩
  refine zM qA qA qA ?_
  refine xo qM (fun hol3 hoc3 => ?_)
  rw [List.length_map] at hol3
  refine ze (O (E R R (zJ R R ?_)))
  refine zg R xq R ?_
  refine zf R yZ R qC ?_
  refine yb R yz R (L.geI R R R (I (zA R (fun h37 => ?_) (fun h37 => ?_))))
  ·try simp only [dq] at h37
   refine zq (z8 (zD (O (E R R (E R R (zJ R R ?_))))))
   refine zg R xq R ?_
   refine zf R yZ R qC ?_
   refine L.sliceTo R yz sz5 R (Bd.at (x := 64) R jR) qI ?_
   refine L.callB1 (A := own 1 5 a3 (len3) cap3 ((p).map yr)) R (ev2 R R) qS qP (fun z H => (show rsl 1 _ 64 _ ((p.take 64).map yr) z from by rw [List.map_take]; exact rsl_of_own (own_to jO H))) (block_spec (b := p.take 64) hhl) ?_
   rintro _ _ _ ⟨rfl, rfl, rfl⟩
   refine zm AppL.nil qA ?_
   have hbl : (blockF h (p.take 64)).length = 8 := by rw [blockF_len]; exact hhl
   refine I (zt (E R R (E R R (zJ R R ?_))))
   refine zg R xq R ?_
   refine zf R yZ R qC ?_
   refine L.sliceO R yz sz5 R (Bd.at (x := 64) R jR) xb qP qI qI qI (fun a50 => ?_)
   refine zJ R R ?_
   refine zg R xq R ?_
   refine yj yZ R R R qU qE ?_
   refine zu (yp a50 ((p.drop 64).map yr) qP (by rw [List.take_of_length_le (by simp; omega), ← List.map_drop]) ?_)
   exact zS (z8 (zV ⟨blockF h (p.take 64), p.drop 64, _, _, _, ⟨by rw [← eat_ge jO]; exact hep, by rw [blockF_len]; exact hhl⟩, R, R, R, R⟩ (by rw [List.length_drop]; omega) (zd _) (.c 0 R <| .c 7 R <| .c 8 R <| .c 9 R <| zd _) qD qD qF))
  try simp only [dq] at h37
  rw [eat_lt jO] at hep
  obtain ⟨rfl, rfl⟩ := Prod.mk.inj hep
  refine y4 (zG (zG (y5 (zS (z8 (zt (zT R R R jO ?_)))))))
  exact E R R (I (zV ⟨j + 1, mm ++ gd ls j, _, _, _, ⟨by omega, by rw [take_flat_s jO, ← List.append_assoc, ← hmm]⟩, R, R, R, R⟩ qI (.c 9 R <| zd _) (.c 0 R <| .c 7 R <| .c 8 R <| zd _) qD qD qF))
 try simp only [dq] at h10
 obtain rfl : mm = m ++ ls.flatten := by rw [hmm, List.take_of_length_le jO]
 exact y4 (zG (zG (y5 (z8 (O (E R R (V R R (I (zo (zy R R ⟨_, _, _, R, R, R⟩ qD qF))))))))))
theorem hsum_spec {s : Nat} {a : Option Addr} {len cap : Nat} {m : List UInt8} (hm : m.length ≤ 70368744177664) : Spec Tryz.prog 124 [.pointer (some ⟨s, 0, none⟩)] [] [cl s 276 ((shH (m)).map W ++ [.slice a len cap, .int .u64 (((m).length : Nat) : Int)]), own 1 5 a (len) cap ((shP (m)).map yr)] (fun v D' M' => v = .agg ((digest m).map Y).toArray ∧ D' = [] ∧ M' = [cl s 276 ((shH (m)).map W ++ [.slice a len cap, .int .u64 (((m).length : Nat) : Int)]), own 1 5 a (len) cap ((shP (m)).map yr)]) := by
 refine zv (n := 80) Tryz.func124 ?_
 intro σ D M
 have hsh := sh_len m
 have hsh1 := hsh.1
 refine xo qM (fun hol hoc => ?_)
 rw [List.length_map] at hol
 refine O (zC R ze37 (fun b2 => ?_))
 refine I (O (E R R (zJ R R ?_)))
 refine zx R ag276 R qN ?_
 refine zC R ze276 (fun b3 => ?_)
 refine zz ag276 R R qL qO qU qW ?_
 refine I (O (yl R bs171 jD (zQ (out := []) R) (fun b10 => ?_)))
 refine E R R (zJ R R ?_)
 refine zg R xq R ?_
 refine zf R yZ R qC ?_
 refine yR (len := 0) qP (rows := []) (sz := 1) (by rfl) R (by simp) ?_
 refine xC R yz yz el5 R R qP (rd_M qM) (by first | with_reducible exact One.yr | (intro u hu; simp at hu; simp_all)) qI qI (fun a15 c15 => ?_)
 refine zg R xq R ?_
 refine yj yZ R R R qU qE ?_
 refine I (O (zg R xq R ?_))
 refine zf R yZ R qC ?_
 refine yl R bs171 jD (zF R R R <| zQ (out := []) R) (fun b19 => ?_)
 refine x6 R yz el5 R R qP qM R qO1 qI qI (fun a20 c20 => ?_)
 refine zg R xq R ?_
 refine yj yZ R R R qU qE ?_
 refine I (ze (zD (yp a20 ((padded m 0).map yr) qP (by simp [padded]; rfl) ?_)))
 refine y8 (fun K' D' M' μ => ∃ (j : Nat) (a4 : Option Addr) (len4 cap4 : Nat), (j ≤ zn (shP m).length) ∧ K' = [] ∧ D' = [] ∧ M' = [cl b3 276 ((shH m).map W ++ [.slice a4 len4 cap4, .int .u64 ((m.length : Nat) : Int)]), own 1 5 a4 (len4) cap4 ((padded m j).map yr)] ∧ μ = zn (shP m).length - j) (.c 0 R <| .c 2 R <| .c 3 R <| zd _) (⟨0, _, _, _, Nat.zero_le _, R, R, R, R⟩) (zd _) qD qS ?_
 rintro K1 D1 M1 m1 ⟨j, a4, len4, cap4, hj, rfl, rfl, rfl, rfl⟩
 refine zM qA qA qA ?_
 refine xo qM (fun hol4 hoc4 => ?_)
 rw [List.length_map] at hol4
 have hpl : (padded m j).length = (shP m).length + 1 + j := by simp only [padded, List.length_append, List.length_replicate, List.length_singleton]
 have hzl := zn_le (k := (shP m).length)
 refine ze (O (zg R xq R ?_))
 refine zf R yZ R qC ?_
 refine yb R yz R (L.remN R R R qI ?_)
 refine zZ R R R (I (zA R (fun h26 => ?_) (fun h26 => ?_)))
 ·try simp only [dq] at h26
  have hjz : j < zn (shP m).length := by have := zn_iff hsh.2.1 hj; omega
  refine zq (z8 (zD (zt (zg R xq R ?_))))
  refine zf R yZ R qC ?_
  refine yl R bs171 jD (zF R R R <| zQ (out := []) R) (fun b29 => ?_)
  refine x6 R yz el5 R R qP qM R qO1 qI qI (fun a30 c30 => ?_)
  refine zg R xq R ?_
  refine yj yZ R R R qU qE ?_
  refine zu (zS (z8 (yp a30 ((padded m (j + 1)).map yr) qP (by simp [padded, List.replicate_succ']; rfl) ?_)))
  exact zV ⟨j + 1, _, _, _, qT, R, R, R, R⟩ qI (zd _) (.c 0 R <| .c 2 R <| .c 3 R <| zd _) qD qD qF
 try simp only [dq] at h26
 obtain rfl : j = zn (shP m).length := (zn_iff hsh.2.1 hj).1 jO
 refine y4 (zG (zG (y5 (z8 (ze (O (V R R (I (zD (yp a4 ((padded m (zn (shP m).length) ++ lenb m.length 0).map yr) qP (by simp [lenb]) ?_))))))))))
 refine y8 (fun K' D' M' μ => ∃ (i : Nat) (a5 : Option Addr) (len5 cap5 : Nat), (i ≤ 8) ∧ K' = [(4, .int .i64 (7 - (i : Int)))] ∧ D' = [] ∧ M' = [cl b3 276 ((shH m).map W ++ [.slice a5 len5 cap5, .int .u64 ((m.length : Nat) : Int)]), own 1 5 a5 (len5) cap5 ((padded m (zn (shP m).length) ++ lenb m.length i).map yr)] ∧ μ = 8 - i) (.c 0 R <| .c 2 R <| .c 3 R <| zd _) (⟨0, _, _, _, Nat.zero_le _, R, R, R, R⟩) (.c 4 R <| zd _) qD qS ?_
 rintro K1 D1 M1 m1 ⟨i, a5, len5, cap5, hi, rfl, rfl, rfl, rfl⟩
 refine zM qA qA qA ?_
 refine xo qM (fun hol5 hoc5 => ?_)
 have hl5 : len5 ≤ 300 := by
  rw [← hol5]; simp only [List.length_map, List.length_append, padded, List.length_replicate, lenb_len, List.length_singleton]; have := zn_le (k := (shP m).length); omega
 refine ze (O (E R R (L.geI R R R (I (zA R (fun h33 => ?_) (fun h33 => ?_))))))
 ·try simp only [dq] at h33
  refine zq (z8 (ze (zD (y7 (clsL [1, 0, 1, 0, 1, 0, 1, 1, 1, 1, 1, 0, 2, 1, 2]) qk ?_))))
  refine z9 0 R R (zg R xq R ?_)
  refine z7 (z9 2 R R (E R R (z7 (z9 7 R R (E R R (z7 (z9 8 R R (L.mulN R R R jO ?_))))))))
  refine z7 (zY (i := 1) R R R R qk qk qk qk R qD qF ?_)
  refine zf R yZ R qC ?_
  refine z7 (yE (i := 3) R R qk qk qk qk R qD qF R ?_)
  refine z9 4 R R (zg R fo276_2 R ?_)
  refine z7 (zY (i := 5) R R R R qk qk qk qk R qD qF ?_)
  refine zf R sc209 R qC ?_
  refine z7 (z9 6 R R (L.mulU R R R qI ?_))
  refine z7 (z9 9 R R (L.shrI R R R qI ?_))
  refine z7 (z9 10 R R (L.convIY R xM zX R ?_))
  refine z7 (zi 11 R (yl R bs171 jD (zF R R R <| zQ (out := []) R) (fun b47 => ?_)))
  refine yH R qD qF ?_
  refine zi 12 R (x6 R yz el5 R R qP qM R qO1 qI qI (fun a48 c48 => ?_))
  refine zh R qD ?_
  refine z9 13 R R (zg R xq R ?_)
  refine z7 (zi 14 R (yj yZ R R R qU qE ?_))
  refine zh R qD ?_
  refine zN qk ?_
  refine yp a48 ((padded m (zn (shP m).length) ++ lenb m.length (i + 1)).map yr) qP (by rw [lenb, ← List.append_assoc, map_snoc]; rfl) ?_
  refine zS (z8 (zt (E R R (yt R R R jO ?_))))
  rw [show (7 : Int) - (i : Int) - 1 = 7 - ((i + 1 : Nat) : Int) by omega]
  exact V R R (I (zV ⟨i + 1, _, _, _, qT, R, R, R, R⟩ qI (.c 4 R <| zd _) (.c 0 R <| .c 2 R <| .c 3 R <| zd _) qD qD qF))
 try simp only [dq] at h33
 obtain rfl : i = 8 := by omega
 refine y4 (zG (zG (y5 (z8 (ze (zD (y8 (fun K' D' M' μ => ∃ (h : List W32) (q : List UInt8) (a6 : Option Addr) (len6 cap6 : Nat), (eat h q = eat (shH m) (padF m) ∧ h.length = 8 ∧ q.length % 64 = 0) ∧ K' = [] ∧ D' = [] ∧ M' = [cl b3 276 ((h).map W ++ [.slice a6 len6 cap6, .int .u64 ((m.length : Nat) : Int)]), own 1 5 a6 (len6) cap6 ((q).map yr)] ∧ μ = q.length) (.c 2 R <| .c 3 R <| zd _) (⟨shH m, padF m, _, _, _, ⟨R, hsh.1, padF_len m⟩, R, R, R, R⟩) (zd _) qD qS ?_)))))))
 rintro K1 D1 M1 m1 ⟨h, q, a6, len6, cap6, ⟨heq, hhl, hq64⟩, rfl, rfl, rfl, rfl⟩
 refine zM qA qA qA ?_
 refine xo qM (fun hol6 hoc6 => ?_)
 rw [List.length_map] at hol6
 refine ze (O (zg R xq R ?_))
 refine zf R yZ R qC ?_
 refine yb R yz R (yy R R R (I (zA R (fun h53 => ?_) (fun h53 => ?_))))
 ·try simp only [dq] at h53
  refine zq (z8 (zD (O (zg R xq R ?_))))
  refine zf R yZ R qC ?_
  refine L.sliceTo R yz sz5 R (Bd.at (x := 64) R jR) qI ?_
  refine L.callB1 (A := own 1 5 a6 (len6) cap6 ((q).map yr)) R (ev2 R R) qS qP (fun z H => (show rsl 1 _ 64 _ ((q.take 64).map yr) z from by rw [List.map_take]; exact rsl_of_own (own_to jO H))) (block_spec (b := q.take 64) hhl) ?_
  rintro _ _ _ ⟨rfl, rfl, rfl⟩
  refine zm AppL.nil qA ?_
  have hbl : (blockF h (q.take 64)).length = 8 := by rw [blockF_len]; exact hhl
  refine I (zt (zg R xq R ?_))
  refine zf R yZ R qC ?_
  refine L.sliceO R yz sz5 R (Bd.at (x := 64) R jR) xb qP qI qI qI (fun a60 => ?_)
  refine zg R xq R ?_
  refine yj yZ R R R qU qE ?_
  refine zu (yp a60 ((q.drop 64).map yr) qP (by rw [List.take_of_length_le (by simp; omega), ← List.map_drop]) ?_)
  exact zS (z8 (zV ⟨blockF h (q.take 64), q.drop 64, _, _, _, ⟨by rw [← eat_ge jO]; exact heq, by rw [blockF_len]; exact hhl, by rw [List.length_drop]; omega⟩, R, R, R, R⟩ (by rw [List.length_drop]; omega) (zd _) (.c 2 R <| .c 3 R <| zd _) qD qD qF))
 try simp only [dq] at h53
 obtain rfl : q = [] := List.length_eq_zero_iff.1 jO
 rw [eat_lt (by simp)] at heq
 have hfin : h = (eat (shH m) (padF m)).1 := by rw [← heq]
 refine y4 (zG (zG (y5 (z8 (O (zC R ze37 (fun b5 => ?_)))))))
 refine I (ze (O (E R R (I (zD (T.clEq b5 ((outF h 0).map Y) qP (by rfl) ?_))))))
 refine y8 (fun K' D' M' μ => ∃ (i : Nat), (i ≤ 32) ∧ K' = [(62, .int .i64 i)] ∧ D' = [] ∧ M' = [cl b5 37 ((outF h i).map Y)] ∧ μ = 32 - i) (.c 2 R <| .c 3 R <| .c 5 R <| zd _) (⟨0, Nat.zero_le _, R, R, R, R⟩) (.c 62 R <| zd _) qD qS ?_
 rintro K1 D1 M1 m1 ⟨i, hi, rfl, rfl, rfl, rfl⟩
 refine zM qA qA qA ?_
 have hofl := outF_len h i
 refine O (zW R R R (I (ze (zA R (fun h63 => ?_) (fun h63 => ?_)))))
 ·try simp only [dq] at h63
  refine zq (z8 (ze (zD (O (E R R (V R R (I (zt (E R R (E R R (L.quoN R R R qI ?_)))))))))))
  refine zg R fo276_0 R ?_
  refine xe (i := i / 4) R xv xf R R jR qI ?_
  refine zf R xj R qC ?_
  refine E R R (L.remN R R R qI ?_)
  refine L.mulN R R R jO ?_
  refine yt R R R jO ?_
  refine L.shrW R R R (show _ = ((24 - 8 * (i % 4) : Nat) : Int) from by omega) ?_
  refine L.convWY R Tryz.underlying240 zX R ?_
  refine xe R xU sz5 R R R qI ?_
  refine yj sc5 R R R qU qE ?_
  refine zu (T.clEq b5 ((outF h (i + 1)).map Y) qP (by rfl) ?_)
  refine zS (z8 (zt (zT R R R jO ?_)))
  exact E R R (I (zV ⟨i + 1, qT, R, R, R, R⟩ qI (.c 62 R <| zd _) (.c 2 R <| .c 3 R <| .c 5 R <| zd _) qD qD qF))
 try simp only [dq] at h63
 obtain rfl : i = 32 := by omega
 refine y4 (zG (zG (y5 (z8 (O (zx R ag37 R qN ?_))))))
 refine zz ag37 R R qL qO qU qW ?_
 exact I (zo (xt R ag37 R qN ⟨by rw [hfin]; rfl, R, R⟩ qD qF))
theorem oidof_spec {kind : Int} {a2 : Option Addr} {k c2 : Nat} {ls : List (List UInt8)} (hm : ls.flatten.length ≤ 35184372088832) (hkb : ls.length ≤ 4611686018427387904) : Spec Tryz.prog 66 [.int .i64 kind, .slice a2 k c2] [rsl 1 a2 k c2 (ls.map ys)] [] (fun v D' M' => v = .agg ((oidF kind ls.flatten).map Y).toArray ∧ D' = [] ∧ M' = []) := by
 refine zv (n := 44) Tryz.func66 ?_
 intro σ D M
 refine yU qM (fun hk2 _ => ?_)
 rw [List.length_map] at hk2
 refine O (zC R ze38 (fun b4 => ?_))
 refine I (O (V R R (I (ze (O (E R R (yb R xp R (E R R (I (zD (y8 (fun K' D' M' μ => ∃ (j : Nat) (nn : Int), (j ≤ ls.length ∧ nn = (((ls.take j).flatten.length : Nat) : Int)) ∧ K' = [(12, .int .i64 j), (5, .int .i64 nn)] ∧ D' = [] ∧ M' = [] ∧ μ = ls.length - j) (.c 0 R <| .c 1 R <| .c 4 R <| .c 10 R <| .c 11 R <| zd _) (⟨0, 0, ⟨by omega, by simp⟩, R, R, R, R⟩) (.c 12 R <| .c 5 R <| zd _) qD qS ?_)))))))))))
 rintro K1 D1 M1 m1 ⟨j, nn, ⟨hj, hnn⟩, rfl, rfl, rfl, rfl⟩
 refine zM qA qA qA ?_
 have htk := take_flat_le ls j
 refine O (zW R R R (I (ze (zA R (fun h13 => ?_) (fun h13 => ?_)))))
 ·try simp only [dq] at h13
  have hlj := y9 (l := ls) (i := j) jO
  have hls : (ls.take (j + 1)).flatten.length ≤ ls.flatten.length := take_flat_le ls (j + 1)
  rw [take_flat_s jO, List.length_append] at hls
  refine zq (z8 (ze (zD (O (yP R xp sz9 R R qM R qG (fun b14 o14 => ?_))))))
  refine zf R sc9 R qC ?_
  refine V R R (I (zt (E R R (E R R (yL R ye R (zT R R R jO ?_))))))
  refine V R R (zu (zS (z8 (zt (zT R R R jO ?_)))))
  exact E R R (I (zV ⟨j + 1, _, ⟨by omega, by rw [take_flat_s jO, List.length_append, hnn]; rfl⟩, R, R, R, R⟩ qI (.c 12 R <| .c 5 R <| zd _) (.c 0 R <| .c 1 R <| .c 4 R <| .c 10 R <| .c 11 R <| zd _) qD qD qF))
 try simp only [dq] at h13
 rw [List.take_of_length_le jO] at hnn
 subst hnn
 refine y4 (zG (zG (y5 (z8 (O (E R R (L.convIY R xi zX R ?_)))))))
 refine yl R bs171 jD (zF R R R <| zF R R R <| zF R R R <| zF R R R <| zQ (out := []) R) (fun b23 => ?_)
 refine V R R (zu (T.toOwn (len := 4) qP (rows := ([99, 114, 118, kb kind] ++ nbs ls.flatten.length 0).map yr) (sz := 1) (by rfl) R (by simp [nbs]) ?_))
 refine z8 (ze (O (V R R (I (zD (y8 (fun K' D' M' μ => ∃ (i : Nat) (a1 : Option Addr) (len1 cap1 : Nat), (i ≤ 4) ∧ K' = [(9, .int .i64 (3 - (i : Int))), (8, .slice a1 len1 cap1)] ∧ D' = [] ∧ M' = [own 1 5 a1 (len1) cap1 (([99, 114, 118, kb kind] ++ nbs ls.flatten.length i).map yr)] ∧ μ = 4 - i) (.c 1 R <| .c 4 R <| .c 5 R <| zd _) (⟨0, _, _, _, Nat.zero_le _, R, R, R, R⟩) (.c 9 R <| .c 8 R <| zd _) qD qS ?_))))))
 rintro K1 D1 M1 m1 ⟨i, a1, len1, cap1, hi, rfl, rfl, rfl, rfl⟩
 refine zM qA qA qA ?_
 refine xo qM (fun hol hoc => ?_)
 have hl1 : len1 ≤ 300 := by
  rw [← hol]; simp only [List.length_map, List.length_append, nbs_len, List.length_cons, List.length_nil]; omega
 refine ze (O (E R R (L.geI R R R (I (zA R (fun h25 => ?_) (fun h25 => ?_))))))
 ·try simp only [dq] at h25
  refine zq (z8 (ze (zD (zt (E R R (E R R (E R R (L.mulN R R R jO ?_))))))))
  refine L.shrI R R R qI ?_
  refine L.convIY R xi zX R ?_
  refine yl R bs171 jD (zF R R R <| zQ (out := []) R) (fun b34 => ?_)
  refine x6 R yz el5 R R qP qM R qO1 qI qI (fun a35 c35 => ?_)
  refine V R R (zu (yp a35 (([99, 114, 118, kb kind] ++ nbs ls.flatten.length (i + 1)).map yr) qP (by rw [nbs, ← List.append_assoc, map_snoc]; rfl) ?_))
  refine zS (z8 (zt (E R R (yt R R R jO ?_))))
  rw [show (3 : Int) - (i : Int) - 1 = 3 - ((i + 1 : Nat) : Int) by omega]
  exact V R R (I (zV ⟨i + 1, _, _, _, qT, R, R, R, R⟩ qI (.c 9 R <| .c 8 R <| zd _) (.c 1 R <| .c 4 R <| .c 5 R <| zd _) qD qD qF))
 try simp only [dq] at h25
 obtain rfl : i = 4 := by omega
 refine yQ qP ?_
 refine y4 (zG (zG (y5 (z8 (ze (y7 (clsL [0, 1, 0, 0, 2, 1, 2, 2, 2]) qk ?_))))))
 refine z9 1 R R (E R R (z7 (z9 5 R R (E R R (z7 (zY (i := 2) R R R R qk qk qk qk R qD qF ?_))))))
 refine xL R yz zX ye R qM ?_
 refine z7 (yA (is := [0, 3]) qk jD (zU R ?_ <| zU R ?_ <| yB) )
 ·refine zp R (xu) qD qS (hnew_spec) ?_
  rintro _ _ _ ⟨s, rfl, rfl, rfl⟩
  refine zm qA qA ?_
  refine yH R qD qF ?_
  refine zi 3 R (yl R bs27 jD (zF R R R <| zQ (out := []) R) (fun b39 => ?_))
  refine yR (len := 1) qP (rows := [oidHead kind ls.flatten.length].map ys) (sz := 1) (by rfl) R (by simp) ?_
  refine yF qP ?_
  refine yH R qD qF ?_
  refine zi 4 R (zp R (ev2 R R) qD qS (hwrite_spec (ls := [oidHead kind ls.flatten.length]) (by simp [oidHead, nbs_len]) (by simp)) ?_)
  rintro _ _ _ ⟨a1', len1', cap1', rfl, rfl, rfl⟩
  refine zm qA qA ?_
  refine zh R qD ?_
  refine zi 6 R (zp R (ev2 R R) qD qS (hwrite_spec (ls := ls) (by simp only [List.nil_append, List.flatten_cons, List.flatten_nil, List.append_nil, List.length_append, oidHead, nbs_len, List.length_cons, List.length_nil]; omega) hkb) ?_)
  rintro _ _ _ ⟨a2', len2', cap2', rfl, rfl, rfl⟩
  refine zm qA qA ?_
  refine zh R qD ?_
  refine zi 7 R (zp R (ev1 R) qD qS (hsum_spec (by simp only [List.nil_append, List.flatten_cons, List.flatten_nil, List.append_nil, List.length_append, oidHead, nbs_len, List.length_cons, List.length_nil]; omega)) ?_)
  rintro _ _ _ ⟨rfl, rfl, rfl⟩
  refine zm qA qA ?_
  rw [show digest ([] ++ [oidHead kind ls.flatten.length].flatten ++ ls.flatten) = oidF kind ls.flatten from by simp only [oidF, List.nil_append, List.flatten_cons, List.flatten_nil, List.append_nil]]
  have h32 := oidF_len kind ls.flatten
  refine zh R qD ?_
  refine zi 8 R (zz zI R R qL qO qU qW ?_)
  refine zh R qD ?_
  refine zN qk ?_
  exact z8 (zo (xt R zI R qN ⟨R, R, R⟩ qD qF))
 refine yl R bs27 jD (zF R R R <| zQ (out := []) R) (fun b39 => ?_)
 refine yR (len := 1) qP (rows := [oidHead kind ls.flatten.length].map ys) (sz := 1) (by rfl) R (by simp) ?_
 refine yF qP ?_
 refine yH R qD qF ?_
 refine zi 0 R (zp R (xu) qD qS (hnew_spec) ?_)
 rintro _ _ _ ⟨s, rfl, rfl, rfl⟩
 refine zm qA qA ?_
 refine yH R qD qF ?_
 refine zi 4 R (zp R (ev2 R R) qD qS (hwrite_spec (ls := [oidHead kind ls.flatten.length]) (by simp [oidHead, nbs_len]) (by simp)) ?_)
 rintro _ _ _ ⟨a1', len1', cap1', rfl, rfl, rfl⟩
 refine zm qA qA ?_
 refine zh R qD ?_
 refine zi 6 R (zp R (ev2 R R) qD qS (hwrite_spec (ls := ls) (by simp only [List.nil_append, List.flatten_cons, List.flatten_nil, List.append_nil, List.length_append, oidHead, nbs_len, List.length_cons, List.length_nil]; omega) hkb) ?_)
 rintro _ _ _ ⟨a2', len2', cap2', rfl, rfl, rfl⟩
 refine zm qA qA ?_
 refine zh R qD ?_
 refine zi 7 R (zp R (ev1 R) qD qS (hsum_spec (by simp only [List.nil_append, List.flatten_cons, List.flatten_nil, List.append_nil, List.length_append, oidHead, nbs_len, List.length_cons, List.length_nil]; omega)) ?_)
 rintro _ _ _ ⟨rfl, rfl, rfl⟩
 refine zm qA qA ?_
 rw [show digest ([] ++ [oidHead kind ls.flatten.length].flatten ++ ls.flatten) = oidF kind ls.flatten from by simp only [oidF, List.nil_append, List.flatten_cons, List.flatten_nil, List.append_nil]]
 have h32 := oidF_len kind ls.flatten
 refine zh R qD ?_
 refine zi 8 R (zz zI R R qL qO qU qW ?_)
 refine zh R qD ?_
 refine zN qk ?_
 exact z8 (zo (xt R zI R qN ⟨R, R, R⟩ qD qF))
end Cv
