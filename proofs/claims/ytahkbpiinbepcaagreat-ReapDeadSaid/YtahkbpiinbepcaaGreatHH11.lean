/-
  The walks: the hash of one block.
-/
import Derived.Test.YtahkbpiinbepcaaGreatFA11
import Derived.Test.YtahkbpiinbepcaaGreatCvLe
import Derived.Test.YtahkbpiinbepcaaGreatCvLc
import Derived.Test.YtahkbpiinbepcaaGreatProg
import Derived.KernelRfl
set_option linter.unusedVariables false
set_option linter.unusedSimpArgs false
set_option linter.unusedSectionVars false
set_option maxHeartbeats 400000
set_option maxRecDepth 10000
namespace Cv
open Go Go.Proofs

theorem rot32 {x : BitVec 32} {n : Nat} (h1 : 1 ≤ n) (h2 : n ≤ 31) : Spec Tryz.prog 174 [W x, .int .i64 (-(n : Int))] [] [] (fun v D' M' => v = W (rotr x n) ∧ D' = [] ∧ M' = []) := by
 refine zC (n := 17) Tryz.func174 ?_
 intro σ D M
 refine z6 (z8 (z9 rfl rfl (z7 (z4 (z6 (z8 (z5 rfl rfl (L.convI rfl xf xH rfl ?_))))))))
 refine L.andI rfl rfl rfl ?_
 rw [rot_s h1 h2]
 refine z9 rfl rfl (z7 (z4 (z6 (z8 (z5 rfl rfl (z5 rfl rfl (L.shlW rfl rfl rfl rfl ?_)))))))
 refine z5 rfl rfl (z5 rfl rfl (L.subU rfl rfl rfl qI ?_))
 refine L.shrW rfl rfl rfl (show _ = ((n : Nat) : Int) by omega) ?_
 refine L.orW rfl rfl rfl ?_
 exact z9 rfl rfl (z7 (z4 (zi (zz rfl rfl ⟨rfl, rfl, rfl⟩ qD qF))))
theorem turn_spec {x : BitVec 32} {n : Nat} (h1 : 1 ≤ n) (h2 : n ≤ 31) : Spec Tryz.prog 158 [W x, .int .i64 (n : Int)] [] [] (fun v D' M' => v = W (rotr x n) ∧ D' = [] ∧ M' = []) := by
 refine zC (n := 9) Tryz.func158 ?_
 intro σ D M
 refine z6 (z8 (z9 rfl rfl (z7 (z4 (z6 (z8 (z5 rfl rfl (z5 rfl rfl (L.negN rfl rfl qI ?_)))))))))
 refine zx rfl (ev2 rfl rfl) qD qS (rot32 qT qT) ?_
 rintro _ _ _ ⟨rfl, rfl, rfl⟩
 refine zt qA qA ?_
 exact z9 rfl rfl (z7 (z4 (zi (zz rfl rfl ⟨rfl, rfl, rfl⟩ qD qF))))
theorem rounds_spec   : Spec Tryz.prog 156 [] [] [] (fun v D' M' => v = .agg (ks.map W).toArray ∧ D' = [] ∧ M' = []) := by
 refine zC (n := 2) Tryz.func156 ?_
 intro σ D M
 refine z6 (z8 (zL rfl ze246 (fun b0 => ?_)))
 refine z7 (z4 (z6 (z8 (yw rfl bua246 (zB rfl rfl rfl <| zB rfl rfl rfl <| zB rfl rfl rfl <| zB rfl rfl rfl <| zB rfl rfl rfl <| zB rfl rfl rfl <| zB rfl rfl rfl <| zB rfl rfl rfl <| zB rfl rfl rfl <| zB rfl rfl rfl <| zB rfl rfl rfl <| zB rfl rfl rfl <| zB rfl rfl rfl <| zB rfl rfl rfl <| zB rfl rfl rfl <| zB rfl rfl rfl <| zB rfl rfl rfl <| zB rfl rfl rfl <| zB rfl rfl rfl <| zB rfl rfl rfl <| zB rfl rfl rfl <| zB rfl rfl rfl <| zB rfl rfl rfl <| zB rfl rfl rfl <| zB rfl rfl rfl <| zB rfl rfl rfl <| zB rfl rfl rfl <| zB rfl rfl rfl <| zB rfl rfl rfl <| zB rfl rfl rfl <| zB rfl rfl rfl <| zB rfl rfl rfl <| zB rfl rfl rfl <| zB rfl rfl rfl <| zB rfl rfl rfl <| zB rfl rfl rfl <| zB rfl rfl rfl <| zB rfl rfl rfl <| zB rfl rfl rfl <| zB rfl rfl rfl <| zB rfl rfl rfl <| zB rfl rfl rfl <| zB rfl rfl rfl <| zB rfl rfl rfl <| zB rfl rfl rfl <| zB rfl rfl rfl <| zB rfl rfl rfl <| zB rfl rfl rfl <| zB rfl rfl rfl <| zB rfl rfl rfl <| zB rfl rfl rfl <| zB rfl rfl rfl <| zB rfl rfl rfl <| zB rfl rfl rfl <| zB rfl rfl rfl <| zB rfl rfl rfl <| zB rfl rfl rfl <| zB rfl rfl rfl <| zB rfl rfl rfl <| zB rfl rfl rfl <| zB rfl rfl rfl <| zB rfl rfl rfl <| zB rfl rfl rfl <| zB rfl rfl rfl <| zO (out := []) rfl) ?_))))
 refine zE ag246 rfl rfl qL qO qU qW ?_
 exact z7 (z4 (zi (T.retA rfl ag246 rfl qN ⟨rfl, rfl, rfl⟩ qD qF)))
theorem spread_spec {a : Option Addr} {cap : Nat} {b : List UInt8}  : Spec Tryz.prog 157 [.slice a 64 cap] [rsl 1 a 64 cap (b.map yr)] [] (fun v D' M' => v = .agg ((spr b 64).map W).toArray ∧ D' = [] ∧ M' = []) := by
 refine zC (n := 83) Tryz.func157 ?_
 intro σ D M
 refine yH qM (fun hbl hcap => ?_)
 rw [List.length_map] at hbl
 refine z6 (z8 (zL rfl ze246 (fun b2 => ?_)))
 refine z7 (z4 (z6 (z8 (zL rfl ze246 (fun b3 => ?_)))))
 refine z7 (z4 (z6 (z6 (z8 (z5 rfl rfl (z7 (z4 (zr (zZ qP (show cl b3 246 (List.map W (List.replicate 64 0)) = cl b3 246 (List.map W (spr b 0)) from rfl) ?_)))))))))
 refine zX (fun K' D' M' μ => ∃ (k : Nat), (k ≤ 64) ∧ K' = [(9, .int .i64 k)] ∧ D' = [] ∧ M' = [cl b3 246 ((spr b k).map W)] ∧ μ = 64 - k) (.c 0 rfl <| .c 2 rfl <| .c 3 rfl <| za _) (⟨0, qT, rfl, rfl, rfl, rfl⟩) (.c 9 rfl <| za _) qD qS ?_
 rintro K1 D1 M1 m1 ⟨k, hk, rfl, rfl, rfl, rfl⟩
 refine zF qA qA qA ?_
 have hsl := spr_len b k
 refine z6 (z8 (zQ rfl rfl rfl (z7 (z4 (z6 (zo rfl (fun h10 => ?_) (fun h10 => ?_)))))))
 ·try simp only [dq] at h10
  refine zm (z4 (z6 (zr (z6 (z8 (z5 rfl rfl (z9 rfl rfl (z7 (z4 (z6 (z6 (z8 (z5 rfl rfl (zQ rfl rfl rfl (z7 (z4 (zo rfl (fun h13 => ?_) (fun h13 => ?_))))))))))))))))))
  ·try simp only [dq] at h13
   refine z6 (z6 (z8 (z5 rfl rfl (z5 rfl rfl (L.mulN rfl rfl rfl jO ?_)))))
   refine z5 rfl rfl (L.mulN rfl rfl rfl jO ?_)
   refine zH rfl rfl rfl jO ?_
   refine L.sliceR rfl yz sz5 rfl (Bd.at (x := 4 * k) rfl jR) (Bd.at (x := 4 * k + 4) rfl jR) qM qI qI qI (fun a20 => ?_)
   rw [show 4 * k + 4 - 4 * k = 4 by omega]
   refine y2 rfl yz rfl (z5 rfl rfl (z7 (z4 (zr (zZ qP (show cl b3 246 (List.map W (spr b k)) = cl b3 246 (List.map W ((spr b k).set k (acc b k (gd (spr b k) k) 0))) from by rw [acc_0, set_gd]) ?_)))))
   refine zX (fun K' D' M' μ => ∃ (j : Nat), (j ≤ 4) ∧ K' = [(22, .int .i64 j)] ∧ D' = [] ∧ M' = [cl b3 246 (((spr b k).set k (acc b k (gd (spr b k) k) j)).map W)] ∧ μ = 4 - j) (.c 0 rfl <| .c 2 rfl <| .c 3 rfl <| .c 4 rfl <| .c 9 rfl <| .c 20 rfl <| .c 21 rfl <| za _) (⟨0, qT, rfl, rfl, rfl, rfl⟩) (.c 22 rfl <| za _) qD qS ?_
   rintro K1 D1 M1 m1 ⟨j, hj, rfl, rfl, rfl, rfl⟩
   refine zF qA qA qA ?_
   refine z6 (z8 (zQ rfl rfl rfl (z7 (z4 (z6 (zo rfl (fun h23 => ?_) (fun h23 => ?_)))))))
   ·try simp only [dq] at h23
    refine zm (z4 (z6 (zr (z6 ?_))))
    have hr : (((b.map yr).drop (4 * k)).take 4)[j]? = some (yr (gd b (4 * k + j))) := by
     rw [List.getElem?_take_of_lt jO, List.getElem?_drop]; exact zU (zJ jO)
    refine z8 (yI rfl yz sz5 rfl rfl qM rfl qG (fun b24 o24 => ?_))
    refine zh rfl sc5 rfl qC ?_
    refine z9 rfl rfl (z7 (z4 (z8 (z5 rfl rfl (z5 rfl rfl (yO rfl xz yP rfl rfl rfl qI ?_))))))
    refine zh rfl yV rfl qC ?_
    refine L.shlW rfl rfl rfl rfl ?_
    refine z5 rfl rfl (L.convYW rfl zY Tryz.underlying208 rfl ?_)
    refine L.orW rfl rfl rfl ?_
    refine yO rfl xz yP rfl rfl rfl qI ?_
    refine yv yV rfl rfl rfl qU qE ?_
    refine z7 (zZ qP (B := cl b3 246 (((spr b k).set k (acc b k (gd (spr b k) k) (j + 1))).map W)) (by rw [acc_s jO, gd_set jO, if_pos rfl, List.set_set]; rfl) ?_)
    refine zI (z4 (z8 (zH rfl rfl rfl jO ?_)))
    exact z5 rfl rfl (z7 (z4 (zM ⟨j + 1, qT, rfl, rfl, rfl, rfl⟩ qI (.c 22 rfl <| za _) (.c 0 rfl <| .c 2 rfl <| .c 3 rfl <| .c 4 rfl <| .c 9 rfl <| .c 20 rfl <| .c 21 rfl <| za _) qD qD qF)))
   ·try simp only [dq] at h23
    obtain rfl : j = 4 := by omega
    refine zZ qP (show cl b3 246 (List.map W ((spr b k).set k (acc b k (gd (spr b k) k) 4))) = cl b3 246 (List.map W (spr b (k + 1))) from by rw [spr, if_pos jO]) ?_
    refine zR (zq (zq (zS (z4 (zR (zq (zS (z4 (z8 (zH rfl rfl rfl jO ?_))))))))))
    exact z5 rfl rfl (z7 (z4 (zM ⟨k + 1, qT, rfl, rfl, rfl, rfl⟩ qI (.c 9 rfl <| za _) (.c 0 rfl <| .c 2 rfl <| .c 3 rfl <| za _) qD qD qF)))
  ·try simp only [dq] at h13
   refine zm (z4 (z6 (yC qk qk (z5 rfl rfl (y7 rfl rfl rfl jO ?_)))))
   refine yO (i := k - 15) rfl xz yP rfl rfl jR qI ?_
   refine zh rfl yV rfl qC ?_
   refine z5 rfl rfl (y7 rfl rfl rfl jO ?_)
   refine yO (i := k - 2) rfl xz yP rfl rfl jR qI ?_
   refine zh rfl yV rfl qC ?_
   refine z9 rfl rfl (z9 rfl rfl (yA (z4 (z6 (yt (clsL [1, 1, 1, 0, 0, 1, 1, 0, 0, 1, 0, 2]) qk ?_)))))
   refine ze 0 rfl rfl (z5 rfl rfl (zd (ze 1 rfl rfl (z5 rfl rfl (zd (ze 2 rfl rfl (y7 rfl rfl rfl jO ?_)))))))
   refine zd (ze 5 rfl rfl (z5 rfl rfl (zd (ze 6 rfl rfl (y7 rfl rfl rfl jO ?_)))))
   refine zd (y8 (i := 3) rfl rfl rfl rfl qk qk qk qk rfl qD qF ?_)
   refine yO (i := k - 16) rfl xz yP rfl rfl jR qI ?_
   refine zd (y8 (i := 4) rfl rfl rfl rfl qk qk qk qk rfl qD qF ?_)
   refine zh rfl yV rfl qC ?_
   refine zd (y8 (i := 7) rfl rfl rfl rfl qk qk qk qk rfl qD qF ?_)
   refine yO (i := k - 7) rfl xz yP rfl rfl jR qI ?_
   refine zd (y8 (i := 8) rfl rfl rfl rfl qk qk qk qk rfl qD qF ?_)
   refine zh rfl yV rfl qC ?_
   refine zd (ze 9 rfl rfl (L.addW rfl rfl rfl ?_))
   refine zd (y8 (i := 10) rfl rfl rfl rfl qk qk qk qk rfl qD qF ?_)
   refine yO rfl xz yP rfl rfl rfl qI ?_
   refine zd (zy 11 rfl (yv yV rfl rfl rfl qU qE ?_))
   refine zw rfl qD ?_
   refine y6 qk ?_
   refine z4 (z6 (yt (clsL [1, 0, 0, 1, 0, 1, 0, 1, 1, 1, 1, 1, 0, 2]) qk ?_))
   refine ze 0 rfl rfl (z5 rfl rfl (zd (ze 3 rfl rfl (z5 rfl rfl (zd (ze 5 rfl rfl (z5 rfl rfl (zd (ze 8 rfl rfl (z5 rfl rfl (zd (ze 9 rfl rfl (L.shrW rfl rfl rfl rfl ?_)))))))))))))
   refine zd (y8 (i := 1) rfl rfl rfl rfl qk qk qk qk rfl qD qF ?_)
   refine yO rfl xz yP rfl rfl rfl qI ?_
   refine zd (y8 (i := 2) rfl rfl rfl rfl qk qk qk qk rfl qD qF ?_)
   refine zh rfl yV rfl qC ?_
   refine zd (zy 4 rfl (zW rfl (ev2 rfl rfl) qD qS (turn_spec (n := 7) jO jO) jF ?_))
   refine yK rfl qD qF ?_
   refine zy 6 rfl (zW rfl (ev2 rfl rfl) qD qS (turn_spec (n := 18) jO jO) jF ?_)
   refine yK rfl qD qF ?_
   refine ze 7 rfl rfl (L.xorW rfl rfl rfl ?_)
   refine zd (ze 10 rfl rfl (L.xorW rfl rfl rfl ?_))
   refine zd (ze 11 rfl rfl (L.addW rfl rfl rfl ?_))
   refine zd (y8 (i := 12) rfl rfl rfl rfl qk qk qk qk rfl qD qF ?_)
   refine yO rfl xz yP rfl rfl rfl qI ?_
   refine zd (zy 13 rfl (yv yV rfl rfl rfl qU qE ?_))
   refine zw rfl qD ?_
   refine y6 qk ?_
   refine z4 (yt (clsL [1, 0, 0, 1, 0, 1, 0, 1, 1, 1, 1, 1, 0, 2]) qk ?_)
   refine ze 0 rfl rfl (z5 rfl rfl (zd (ze 3 rfl rfl (z5 rfl rfl (zd (ze 5 rfl rfl (z5 rfl rfl (zd (ze 8 rfl rfl (z5 rfl rfl (zd (ze 9 rfl rfl (L.shrW rfl rfl rfl rfl ?_)))))))))))))
   refine zd (y8 (i := 1) rfl rfl rfl rfl qk qk qk qk rfl qD qF ?_)
   refine yO rfl xz yP rfl rfl rfl qI ?_
   refine zd (y8 (i := 2) rfl rfl rfl rfl qk qk qk qk rfl qD qF ?_)
   refine zh rfl yV rfl qC ?_
   refine zd (zy 4 rfl (zW rfl (ev2 rfl rfl) qD qS (turn_spec (n := 17) jO jO) jF ?_))
   refine yK rfl qD qF ?_
   refine zy 6 rfl (zW rfl (ev2 rfl rfl) qD qS (turn_spec (n := 19) jO jO) jF ?_)
   refine yK rfl qD qF ?_
   refine ze 7 rfl rfl (L.xorW rfl rfl rfl ?_)
   refine zd (ze 10 rfl rfl (L.xorW rfl rfl rfl ?_))
   refine zd (ze 11 rfl rfl (L.addW rfl rfl rfl ?_))
   refine zd (y8 (i := 12) rfl rfl rfl rfl qk qk qk qk rfl qD qF ?_)
   refine yO rfl xz yP rfl rfl rfl qI ?_
   refine zd (zy 13 rfl (yv yV rfl rfl rfl qU qE ?_))
   refine zw rfl qD ?_
   refine y6 qk ?_
   refine zZ qP (B := cl b3 246 ((spr b (k + 1)).map W)) (by rw [spr, if_neg jO]; simp only [List.set_set, gd_set, hsl, List.length_set, show k < 64 by omega, if_true]; rfl) ?_
   refine zI (z4 (z8 (zH rfl rfl rfl jO ?_)))
   exact z5 rfl rfl (z7 (z4 (zM ⟨k + 1, qT, rfl, rfl, rfl, rfl⟩ qI (.c 9 rfl <| za _) (.c 0 rfl <| .c 2 rfl <| .c 3 rfl <| za _) qD qD qF)))
 ·try simp only [dq] at h10
  obtain rfl : k = 64 := by omega
  refine zR (zq (zq (zS (z4 (z6 (z8 (zp rfl ag246 rfl qN ?_)))))))
  refine zE ag246 rfl rfl qL qO qU qW ?_
  exact z7 (z4 (zi (T.retA rfl ag246 rfl qN ⟨rfl, rfl, rfl⟩ qD qF)))
theorem block_spec {s : Nat} {a : Option Addr} {cap : Nat} {b : List UInt8} {h : List W32} {tl : List Value} (hl : h.length = 8) : Spec Tryz.prog 128 [.pointer (some ⟨s, 0, none⟩), .slice a 64 cap] [rsl 1 a 64 cap (b.map yr)] [cl s 212 (h.map W ++ tl)] (fun v D' M' => v = .tuple #[] ∧ D' = [] ∧ M' = [cl s 212 ((blockF h b).map W ++ tl)]) := by
 refine zC (n := 111) Tryz.func128 ?_
 intro σ D M
 have hkl : ks.length = 64 := rfl
 refine z6 (yu (fun K' D' M' => ∃ (b4 b5 : Nat), K' = [(4, .pointer (some ⟨b4, 0, none⟩)), (5, .pointer (some ⟨b5, 0, none⟩))] ∧ D' = [] ∧ M' = [cl b4 210 (h.map W), cl b5 246 (ks.map W)]) (M0 := []) (.c 0 rfl <| .c 1 rfl <| za _) qS ?_ ?_)
 ·skip
  refine yt (clsL [1, 0, 1, 0, 0, 0, 0, 2, 2]) qk ?_
  refine ze 0 rfl rfl (z5 rfl rfl (zd (xn (i := 1) rfl rfl qk qk qk qk rfl qD qF rfl ?_)))
  refine ze 2 rfl rfl (zj rfl fo212_0 rfl ?_)
  refine zd (y8 (i := 3) rfl rfl rfl rfl qk qk qk qk rfl qD qF ?_)
  refine zp rfl ag210 rfl qN ?_
  refine zd (xg (is := [4, 5, 6]) qk jD (yE rfl ?_ <| yE rfl ?_ <| yE rfl ?_ <| xh) )
  ·skip
   refine zx rfl (xu) qD qS (rounds_spec ) ?_
   rintro _ _ _ ⟨rfl, rfl, rfl⟩
   refine zt qA qA ?_
   refine yK rfl qD qF ?_
   refine xg (is := [5, 6]) qk jD (yE rfl ?_ <| yE rfl ?_ <| xh) 
   ·skip
    refine zL rfl ze210 (fun b4 => ?_)
    refine yK rfl qD qF ?_
    refine zy 6 rfl (zL rfl ze246 (fun b5 => ?_))
    refine yK rfl qD qF ?_
    refine zy 7 rfl (zE ag210 rfl rfl qL qO qU qW ?_)
    refine zw rfl qD ?_
    refine zy 8 rfl (zE ag246 rfl rfl qL qO qU qW ?_)
    refine zw rfl qD ?_
    refine y6 qk ?_
    exact z4 (zK ⟨_, _, rfl, rfl, rfl⟩ (.c 4 rfl <| .c 5 rfl <| za _) (.c 0 rfl <| .c 1 rfl <| za _) qD qD qF)
   ·skip
    refine zL rfl ze246 (fun b5 => ?_)
    refine yK rfl qD qF ?_
    refine zy 5 rfl (zL rfl ze210 (fun b4 => ?_))
    refine yK rfl qD qF ?_
    refine zy 7 rfl (zE ag210 rfl rfl qL qO qU qW ?_)
    refine zw rfl qD ?_
    refine zy 8 rfl (zE ag246 rfl rfl qL qO qU qW ?_)
    refine zw rfl qD ?_
    refine y6 qk ?_
    exact z4 (zK ⟨_, _, rfl, rfl, rfl⟩ (.c 4 rfl <| .c 5 rfl <| za _) (.c 0 rfl <| .c 1 rfl <| za _) qD qD qF)
  ·skip
   refine zL rfl ze210 (fun b4 => ?_)
   refine yK rfl qD qF ?_
   refine xg (is := [4, 6]) qk jD (yE rfl ?_ <| yE rfl ?_ <| xh) 
   ·skip
    refine zx rfl (xu) qD qS (rounds_spec ) ?_
    rintro _ _ _ ⟨rfl, rfl, rfl⟩
    refine zt qA qA ?_
    refine yK rfl qD qF ?_
    refine zy 6 rfl (zL rfl ze246 (fun b5 => ?_))
    refine yK rfl qD qF ?_
    refine zy 7 rfl (zE ag210 rfl rfl qL qO qU qW ?_)
    refine zw rfl qD ?_
    refine zy 8 rfl (zE ag246 rfl rfl qL qO qU qW ?_)
    refine zw rfl qD ?_
    refine y6 qk ?_
    exact z4 (zK ⟨_, _, rfl, rfl, rfl⟩ (.c 4 rfl <| .c 5 rfl <| za _) (.c 0 rfl <| .c 1 rfl <| za _) qD qD qF)
   ·skip
    refine zL rfl ze246 (fun b5 => ?_)
    refine yK rfl qD qF ?_
    refine zy 4 rfl (zx rfl (xu) qD qS (rounds_spec ) ?_)
    rintro _ _ _ ⟨rfl, rfl, rfl⟩
    refine zt qA qA ?_
    refine yK rfl qD qF ?_
    refine zy 7 rfl (zE ag210 rfl rfl qL qO qU qW ?_)
    refine zw rfl qD ?_
    refine zy 8 rfl (zE ag246 rfl rfl qL qO qU qW ?_)
    refine zw rfl qD ?_
    refine y6 qk ?_
    exact z4 (zK ⟨_, _, rfl, rfl, rfl⟩ (.c 4 rfl <| .c 5 rfl <| za _) (.c 0 rfl <| .c 1 rfl <| za _) qD qD qF)
  ·skip
   refine zL rfl ze246 (fun b5 => ?_)
   refine yK rfl qD qF ?_
   refine xg (is := [4, 5]) qk jD (yE rfl ?_ <| yE rfl ?_ <| xh) 
   ·skip
    refine zx rfl (xu) qD qS (rounds_spec ) ?_
    rintro _ _ _ ⟨rfl, rfl, rfl⟩
    refine zt qA qA ?_
    refine yK rfl qD qF ?_
    refine zy 5 rfl (zL rfl ze210 (fun b4 => ?_))
    refine yK rfl qD qF ?_
    refine zy 7 rfl (zE ag210 rfl rfl qL qO qU qW ?_)
    refine zw rfl qD ?_
    refine zy 8 rfl (zE ag246 rfl rfl qL qO qU qW ?_)
    refine zw rfl qD ?_
    refine y6 qk ?_
    exact z4 (zK ⟨_, _, rfl, rfl, rfl⟩ (.c 4 rfl <| .c 5 rfl <| za _) (.c 0 rfl <| .c 1 rfl <| za _) qD qD qF)
   ·skip
    refine zL rfl ze210 (fun b4 => ?_)
    refine yK rfl qD qF ?_
    refine zy 4 rfl (zx rfl (xu) qD qS (rounds_spec ) ?_)
    rintro _ _ _ ⟨rfl, rfl, rfl⟩
    refine zt qA qA ?_
    refine yK rfl qD qF ?_
    refine zy 7 rfl (zE ag210 rfl rfl qL qO qU qW ?_)
    refine zw rfl qD ?_
    refine zy 8 rfl (zE ag246 rfl rfl qL qO qU qW ?_)
    refine zw rfl qD ?_
    refine y6 qk ?_
    exact z4 (zK ⟨_, _, rfl, rfl, rfl⟩ (.c 4 rfl <| .c 5 rfl <| za _) (.c 0 rfl <| .c 1 rfl <| za _) qD qD qF)
 rintro _ _ _ ⟨b4, b5, rfl, rfl, rfl⟩
 refine zF qA qA qA ?_
 refine z4 (z6 (z6 (z8 (z5 rfl rfl (zx rfl (ev1 rfl) qD qS (spread_spec ) ?_)))))
 rintro _ _ _ ⟨rfl, rfl, rfl⟩
 refine zt qA qA ?_
 refine z5 rfl rfl (z7 (z4 (zr (zZ qP (show cl b4 210 (List.map W h) = cl b4 210 (List.map W (rnds h (spr b 64) 0)) from rfl) ?_))))
 have hsl := spr_len b 64
 refine zX (fun K' D' M' μ => ∃ (k : Nat), (k ≤ 64) ∧ K' = [(20, .int .i64 k)] ∧ D' = [] ∧ M' = [cl b4 210 ((rnds h (spr b 64) k).map W)] ∧ μ = 64 - k) (.c 0 rfl <| .c 4 rfl <| .c 5 rfl <| .c 19 rfl <| za _) (⟨0, qT, rfl, rfl, rfl, rfl⟩) (.c 20 rfl <| za _) qD qS ?_
 rintro K1 D1 M1 m1 ⟨k, hk, rfl, rfl, rfl, rfl⟩
 refine zF qA qA qA ?_
 refine z6 (z8 (zQ rfl rfl rfl (z7 (z4 (z6 (zo rfl (fun h21 => ?_) (fun h21 => ?_)))))))
 ·try simp only [dq] at h21
  obtain ⟨v0, v1, v2, v3, v4, v5, v6, v7, hv⟩ := len8 (rnds_len (ws := spr b 64) hl k)
  refine zZ qP (show cl b4 210 (List.map W (rnds h (spr b 64) k)) = cl b4 210 [W v0, W v1, W v2, W v3, W v4, W v5, W v6, W v7] from by rw [hv]; rfl) ?_
  refine zm (z4 (z6 (zr (z6 (z8 (z5 rfl rfl (L.indexV rfl xz yV rfl rfl rfl qI (by first | exact zU (zJ qL) | assumption | rfl) ?_)))))))
  refine z9 rfl rfl (z9 rfl rfl (z7 (z4 (z6 (yC qk qk (yO rfl xt yP rfl rfl rfl qI ?_))))))
  refine zh rfl yV rfl qC ?_
  refine yO rfl xt yP rfl rfl rfl qI ?_
  refine zh rfl yV rfl qC ?_
  refine z9 rfl rfl (z9 rfl rfl (yA (z4 (z6 (yC qk qk (yO rfl xt yP rfl rfl rfl qI ?_))))))
  refine zh rfl yV rfl qC ?_
  refine z5 rfl rfl (yO rfl xz yP rfl rfl rfl qI ?_)
  refine zh rfl yV rfl qC ?_
  refine L.addW rfl rfl rfl ?_
  refine z5 rfl rfl (L.addW rfl rfl rfl ?_)
  refine z9 rfl rfl (yA (z4 (z6 (z8 (z5 rfl rfl (z5 rfl rfl (zW rfl (ev2 rfl rfl) qD qS (turn_spec (n := 6) jO jO) jF ?_)))))))
  refine z5 rfl rfl (zW rfl (ev2 rfl rfl) qD qS (turn_spec (n := 11) jO jO) jF ?_)
  refine L.xorW rfl rfl rfl ?_
  refine z5 rfl rfl (zW rfl (ev2 rfl rfl) qD qS (turn_spec (n := 25) jO jO) jF ?_)
  refine L.xorW rfl rfl rfl ?_
  refine L.addW rfl rfl rfl ?_
  refine z9 rfl rfl (z7 (z4 (z6 (z8 (z5 rfl rfl (z5 rfl rfl (yO rfl xt yP rfl rfl rfl qI ?_)))))))
  refine zh rfl yV rfl qC ?_
  refine L.andW rfl rfl rfl ?_
  refine z5 rfl rfl (L.notW rfl rfl ?_)
  refine yO rfl xt yP rfl rfl rfl qI ?_
  refine zh rfl yV rfl qC ?_
  refine L.andW rfl rfl rfl ?_
  refine L.orW rfl rfl rfl ?_
  refine L.addW rfl rfl rfl ?_
  refine z9 rfl rfl (z7 (z4 (z6 (z8 (z5 rfl rfl (zW rfl (ev2 rfl rfl) qD qS (turn_spec (n := 2) jO jO) jF ?_))))))
  refine z5 rfl rfl (zW rfl (ev2 rfl rfl) qD qS (turn_spec (n := 13) jO jO) jF ?_)
  refine L.xorW rfl rfl rfl ?_
  refine z5 rfl rfl (zW rfl (ev2 rfl rfl) qD qS (turn_spec (n := 22) jO jO) jF ?_)
  refine L.xorW rfl rfl rfl ?_
  refine z9 rfl rfl (z7 (z4 (z6 (z8 (z5 rfl rfl (z5 rfl rfl (yO rfl xt yP rfl rfl rfl qI ?_)))))))
  refine zh rfl yV rfl qC ?_
  refine yO rfl xt yP rfl rfl rfl qI ?_
  refine zh rfl yV rfl qC ?_
  refine L.orW rfl rfl rfl ?_
  refine L.andW rfl rfl rfl ?_
  refine yO rfl xt yP rfl rfl rfl qI ?_
  refine zh rfl yV rfl qC ?_
  refine yO rfl xt yP rfl rfl rfl qI ?_
  refine zh rfl yV rfl qC ?_
  refine L.andW rfl rfl rfl ?_
  refine L.orW rfl rfl rfl ?_
  refine L.addW rfl rfl rfl ?_
  refine z9 rfl rfl (z7 (z4 (z6 (yt (clsL [0, 0, 2]) qk ?_))))
  refine y8 (i := 0) rfl rfl rfl rfl qk qk qk qk rfl qD qF ?_
  refine xD rfl xt yP rfl (Bd.at rfl rfl) Bd.no qI qI ?_
  refine zd (y8 (i := 1) rfl rfl rfl rfl qk qk qk qk rfl qD qF ?_)
  refine xD rfl xt yP rfl Bd.no (Bd.at rfl rfl) qI qI ?_
  refine zd (zy 2 rfl (L.copyCl rfl Tryz.underlying250 yP rfl rfl rfl qN qO qU qE ?_))
  refine zw rfl qD ?_
  refine y6 qk ?_
  refine z4 (z6 (z8 (yO rfl xt yP rfl rfl rfl qI ?_)))
  refine zh rfl yV rfl qC ?_
  refine z5 rfl rfl (L.addW rfl rfl rfl ?_)
  refine yO rfl xt yP rfl rfl rfl qI ?_
  refine yv yV rfl rfl rfl qU qE ?_
  refine z7 (z4 (z8 (z5 rfl rfl (z5 rfl rfl (L.addW rfl rfl rfl ?_)))))
  refine yO rfl xt yP rfl rfl rfl qI ?_
  refine yv yV rfl rfl rfl qU qE ?_
  refine z7 (zZ qP (B := cl b4 210 ((rnds h (spr b 64) (k + 1)).map W)) (by rw [rnds, hv]; rfl) ?_)
  refine zI (z4 (z8 (zH rfl rfl rfl jO ?_)))
  exact z5 rfl rfl (z7 (z4 (zM ⟨k + 1, qT, rfl, rfl, rfl, rfl⟩ qI (.c 20 rfl <| za _) (.c 0 rfl <| .c 4 rfl <| .c 5 rfl <| .c 19 rfl <| za _) qD qD qF)))
 ·try simp only [dq] at h21
  obtain rfl : k = 64 := by omega
  refine zR (zq (zq (zS (z4 (z6 (z8 (z5 rfl rfl (z7 (z4 (zr (zZ qP (show cl s 212 (List.map W h ++ tl) = cl s 212 (List.map W (addS h (rnds h (spr b 64) 64) 0) ++ tl) from rfl) ?_)))))))))))
  refine zX (fun K' D' M' μ => ∃ (k : Nat), (k ≤ 8) ∧ K' = [(94, .int .i64 k)] ∧ D' = [] ∧ M' = [cl s 212 ((addS h (rnds h (spr b 64) 64) k).map W ++ tl)] ∧ μ = 8 - k) (.c 0 rfl <| .c 4 rfl <| za _) (⟨0, qT, rfl, rfl, rfl, rfl⟩) (.c 94 rfl <| za _) qD qS ?_
  rintro K1 D1 M1 m1 ⟨k, hk, rfl, rfl, rfl, rfl⟩
  refine zF qA qA qA ?_
  have hal : (addS h (rnds h (spr b 64) 64) k).length = 8 := by rw [addS_len]; exact hl
  have hrl : (rnds h (spr b 64) 64).length = 8 := rnds_len hl _
  refine z6 (z8 (zQ rfl rfl rfl (z7 (z4 (z6 (zo rfl (fun h95 => ?_) (fun h95 => ?_)))))))
  ·try simp only [dq] at h95
   refine zm (z4 (z6 (zr (z6 (z8 (z5 rfl rfl (z9 rfl rfl (z7 (z4 (yt (clsL [1, 1, 0, 1, 0, 0, 1, 0, 0, 1, 0, 1, 0, 2]) qk ?_))))))))))
   refine ze 0 rfl rfl (z5 rfl rfl (zd (ze 1 rfl rfl (z5 rfl rfl (zd (ze 6 rfl rfl (z5 rfl rfl (zd (xn (i := 2) rfl rfl qk qk qk qk rfl qD qF rfl ?_)))))))))
   refine ze 3 rfl rfl (zj rfl fo212_0 rfl ?_)
   refine zd (y8 (i := 4) rfl rfl rfl rfl qk qk qk qk rfl qD qF ?_)
   refine yO rfl xt yP rfl rfl rfl qI ?_
   refine zd (y8 (i := 5) rfl rfl rfl rfl qk qk qk qk rfl qD qF ?_)
   refine zh rfl yV rfl qC ?_
   refine zd (y8 (i := 7) rfl rfl rfl rfl qk qk qk qk rfl qD qF ?_)
   refine yO rfl xt yP rfl rfl rfl qI ?_
   refine zd (y8 (i := 8) rfl rfl rfl rfl qk qk qk qk rfl qD qF ?_)
   refine zh rfl yV rfl qC ?_
   refine zd (ze 9 rfl rfl (L.addW rfl rfl rfl ?_))
   refine zd (xn (i := 10) rfl rfl qk qk qk qk rfl qD qF rfl ?_)
   refine ze 11 rfl rfl (zj rfl fo212_0 rfl ?_)
   refine zd (y8 (i := 12) rfl rfl rfl rfl qk qk qk qk rfl qD qF ?_)
   refine yO rfl xt yP rfl rfl rfl qI ?_
   refine zd (zy 13 rfl (yv yV rfl rfl rfl qU qE ?_))
   refine zw rfl qD ?_
   refine y6 qk ?_
   refine zZ qP (B := cl s 212 ((addS h (rnds h (spr b 64) 64) (k + 1)).map W ++ tl)) (by rw [addS]) ?_
   refine zI (z4 (z8 (zH rfl rfl rfl jO ?_)))
   exact z5 rfl rfl (z7 (z4 (zM ⟨k + 1, qT, rfl, rfl, rfl, rfl⟩ qI (.c 94 rfl <| za _) (.c 0 rfl <| .c 4 rfl <| za _) qD qD qF)))
  ·try simp only [dq] at h95
   obtain rfl : k = 8 := by omega
   refine zZ qP (show cl s 212 (List.map W (addS h (rnds h (spr b 64) 64) 8) ++ tl) = cl s 212 (List.map W (blockF h b) ++ tl) from rfl) ?_
   exact zR (zq (zq (zS (yW (by simp) rfl ⟨rfl, rfl, rfl⟩ qD qF))))
end Cv
set_option maxRecDepth 10000
namespace Cv
open Go Go.Proofs

theorem hnew_spec   : Spec Tryz.prog 94 [] [] [] (fun v D' M' => ∃ (s : Nat), v = .pointer (some ⟨s, 0, none⟩) ∧ D' = [] ∧ M' = [cl s 212 ((shH (([] : List UInt8))).map W ++ [.slice none 0 0, .int .u64 (((([] : List UInt8)).length : Nat) : Int)]), own 1 5 none (0) 0 ((shP (([] : List UInt8))).map yr)]) := by
 refine zC (n := 4) Tryz.func94 ?_
 intro σ D M
 refine z6 (z8 (z9 rfl rfl (z7 (z4 (z6 (z8 (yw rfl bua210 (zB rfl rfl rfl <| zB rfl rfl rfl <| zB rfl rfl rfl <| zB rfl rfl rfl <| zB rfl rfl rfl <| zB rfl rfl rfl <| zB rfl rfl rfl <| zB rfl rfl rfl <| zO (out := []) rfl) ?_)))))))
 refine yw rfl bu212 (yQ rfl rfl (by first | with_reducible assumption | (simp; done) | (simp only [List.length_map]; with_reducible assumption) | (simp [*]; done) | rfl) (Nat.le_of_ble_eq_true rfl) qR <| zO (out := [Value.slice none 0 0, .int .u64 0]) rfl) ?_
 refine yq rfl rfl rfl (fun b3 => ?_)
 refine z9 rfl rfl (z7 (zZ (B := cl b3 212 ((shH ([] : List UInt8)).map W ++ [.slice none 0 0, .int .u64 ((([] : List UInt8).length : Nat) : Int)])) qP (by rw [shH_nil]; rfl) ?_))
 refine yF (sz := 1) (e := 5) ?_
 refine zZ (A := own 1 5 none 0 0 []) (B := own 1 5 none (0) 0 ((shP ([] : List UInt8)).map yr)) qP (by rw [shP_nil]; rfl) ?_
 exact z4 (zi (zz rfl rfl ⟨_, rfl, rfl, rfl⟩ qD qF))
theorem hwrite_spec {s : Nat} {a a2 : Option Addr} {len cap k c2 : Nat} {m : List UInt8} {ls : List (List UInt8)} (hm : m.length + ls.flatten.length ≤ 70368744177664) (hkb : ls.length ≤ 4611686018427387904) : Spec Tryz.prog 95 [.pointer (some ⟨s, 0, none⟩), .slice a2 k c2] [rsl 1 a2 k c2 (ls.map ys)] [cl s 212 ((shH (m)).map W ++ [.slice a len cap, .int .u64 (((m).length : Nat) : Int)]), own 1 5 a (len) cap ((shP (m)).map yr)] (fun v D' M' => ∃ (a' : Option Addr) (len' cap' : Nat), v = .pointer (some ⟨s, 0, none⟩) ∧ D' = [] ∧ M' = [cl s 212 ((shH (m ++ ls.flatten)).map W ++ [.slice a' len' cap', .int .u64 (((m ++ ls.flatten).length : Nat) : Int)]), own 1 5 a' (len') cap' ((shP (m ++ ls.flatten)).map yr)]) := by
 refine zC (n := 55) Tryz.func95 ?_
 intro σ D M
 refine yH qM (fun hk2 _ => ?_)
 rw [List.length_map] at hk2
 refine z6 (z8 (z9 rfl rfl (z7 (z4 (z6 (z6 (z8 (z5 rfl rfl (y2 rfl yL rfl (z5 rfl rfl (z7 (z4 (zr (zX (fun K' D' M' μ => ∃ (j : Nat) (mm : List UInt8) (a1 : Option Addr) (len1 cap1 : Nat), (j ≤ ls.length ∧ mm = m ++ (ls.take j).flatten) ∧ K' = [(9, .int .i64 j)] ∧ D' = [] ∧ M' = [cl s 212 ((shH (mm)).map W ++ [.slice a1 len1 cap1, .int .u64 (((mm).length : Nat) : Int)]), own 1 5 a1 (len1) cap1 ((shP (mm)).map yr)] ∧ μ = ls.length - j) (.c 0 rfl <| .c 7 rfl <| .c 8 rfl <| za _) (⟨0, m, a, len, cap, ⟨by omega, by simp⟩, rfl, rfl, rfl, rfl⟩) (.c 9 rfl <| za _) qD qS ?_))))))))))))))
 rintro K1 D1 M1 m1 ⟨j, mm, a1, len1, cap1, ⟨hj, hmm⟩, rfl, rfl, rfl, rfl⟩
 refine zF qA qA qA ?_
 have hsh := sh_len mm
 have htk := take_flat_le ls j
 have hmml : mm.length = m.length + (ls.take j).flatten.length := by rw [hmm]; simp
 refine xi qM (fun hol hoc => ?_)
 rw [List.length_map] at hol
 have hsh1 := hsh.1
 refine z6 (z8 (zQ rfl rfl rfl (z7 (z4 (z6 (zo rfl (fun h10 => ?_) (fun h10 => ?_)))))))
 ·try simp only [dq] at h10
  have hlj := zJ (l := ls) (i := j) jO
  have hls : (ls.take (j + 1)).flatten.length ≤ ls.flatten.length := take_flat_le ls (j + 1)
  rw [take_flat_s jO, List.length_append] at hls
  refine zm (z4 (z6 (zr (z6 (z8 (yI rfl yL sz9 rfl rfl qM rfl qG (fun b11 o11 => ?_)))))))
  refine zh rfl sc9 rfl qC ?_
  refine z9 rfl rfl (z7 (z4 (z6 (z8 (z5 rfl rfl (yi rfl rfl ?_))))))
  refine zj rfl fo212_2 rfl ?_
  refine zh rfl sc176 rfl qC ?_
  refine z5 rfl rfl (xj rfl yy rfl (L.convU rfl xf xA rfl qI ?_))
  refine L.addU rfl rfl rfl qI ?_
  refine yi rfl rfl ?_
  refine zj rfl fo212_2 rfl ?_
  refine yv sc176 rfl rfl rfl qU qE ?_
  refine z7 (zZ qP (show cl s 212 ((shH mm).map W ++ [.slice a1 len1 cap1, .int .u64 (((mm.length : Nat) : Int) + (((gd ls j).length : Nat) : Int))]) = cl s 212 ((shH mm).map W ++ [.slice a1 len1 cap1, .int .u64 (((mm ++ gd ls j).length : Nat) : Int)]) from by rw [List.length_append]; rfl) ?_)
  refine z4 (z6 (z8 (z5 rfl rfl (z5 rfl rfl (yi rfl rfl ?_)))))
  refine zj rfl xp rfl ?_
  refine zh rfl yT rfl qC ?_
  refine z5 rfl rfl (L.appendS rfl yz yy el5 rfl rfl qP qI (fun a29 c29 => ?_))
  refine yi rfl rfl ?_
  refine zj rfl xp rfl ?_
  refine yv yT rfl rfl rfl qU qE ?_
  refine z7 (z4 (zr (y4 a29 ((shP mm ++ gd ls j).map yr) qP (by rw [List.map_append]) ?_)))
  refine zX (fun K' D' M' μ => ∃ (h : List W32) (p : List UInt8) (a3 : Option Addr) (len3 cap3 : Nat), (eat h p = (shH (mm ++ gd ls j), shP (mm ++ gd ls j)) ∧ h.length = 8) ∧ K' = [] ∧ D' = [] ∧ M' = [cl s 212 ((h).map W ++ [.slice a3 len3 cap3, .int .u64 (((mm ++ gd ls j).length : Nat) : Int)]), own 1 5 a3 (len3) cap3 ((p).map yr)] ∧ μ = p.length) (.c 0 rfl <| .c 7 rfl <| .c 8 rfl <| .c 9 rfl <| za _) (⟨shH mm, shP mm ++ gd ls j, _, _, _, ⟨sh_append _ _, hsh.1⟩, rfl, rfl, rfl, rfl⟩) (za _) qD qS ?_
  rintro K1 D1 M1 m1 ⟨h, p, a3, len3, cap3, ⟨hep, hhl⟩, rfl, rfl, rfl, rfl⟩
  refine zF qA qA qA ?_
  refine xi qM (fun hol3 hoc3 => ?_)
  rw [List.length_map] at hol3
  refine z6 (z6 (z8 (z5 rfl rfl (yi rfl rfl ?_))))
  refine zj rfl xp rfl ?_
  refine zh rfl yT rfl qC ?_
  refine y2 rfl yz rfl (x6 rfl rfl rfl (z7 (z4 (zo rfl (fun h37 => ?_) (fun h37 => ?_)))))
  ·try simp only [dq] at h37
   refine zm (z4 (zr (z6 (z8 (z5 rfl rfl (z5 rfl rfl (yi rfl rfl ?_)))))))
   refine zj rfl xp rfl ?_
   refine zh rfl yT rfl qC ?_
   refine L.sliceTo rfl yz sz5 rfl (Bd.at (x := 64) rfl jR) qI ?_
   refine L.callB1 (A := own 1 5 a3 (len3) cap3 ((p).map yr)) rfl (ev2 rfl rfl) qS qP (fun z H => (show rsl 1 _ 64 _ ((p.take 64).map yr) z from by rw [List.map_take]; exact rsl_of_own (own_to jO H))) (block_spec (b := p.take 64) hhl) ?_
   rintro _ _ _ ⟨rfl, rfl, rfl⟩
   refine zt AppL.nil qA ?_
   have hbl : (blockF h (p.take 64)).length = 8 := by rw [blockF_len]; exact hhl
   refine z7 (z4 (z8 (z5 rfl rfl (z5 rfl rfl (yi rfl rfl ?_)))))
   refine zj rfl xp rfl ?_
   refine zh rfl yT rfl qC ?_
   refine L.sliceO rfl yz sz5 rfl (Bd.at (x := 64) rfl jR) Bd.no qP qI qI qI (fun a50 => ?_)
   refine yi rfl rfl ?_
   refine zj rfl xp rfl ?_
   refine yv yT rfl rfl rfl qU qE ?_
   refine z7 (y4 a50 ((p.drop 64).map yr) qP (by rw [List.take_of_length_le (by simp; omega), ← List.map_drop]) ?_)
   exact zI (z4 (zM ⟨blockF h (p.take 64), p.drop 64, _, _, _, ⟨by rw [← eat_ge jO]; exact hep, by rw [blockF_len]; exact hhl⟩, rfl, rfl, rfl, rfl⟩ (by rw [List.length_drop]; omega) (za _) (.c 0 rfl <| .c 7 rfl <| .c 8 rfl <| .c 9 rfl <| za _) qD qD qF))
  ·try simp only [dq] at h37
   rw [eat_lt jO] at hep
   obtain ⟨rfl, rfl⟩ := Prod.mk.inj hep
   refine zR (zq (zq (zS (zI (z4 (z8 (zH rfl rfl rfl jO ?_)))))))
   exact z5 rfl rfl (z7 (z4 (zM ⟨j + 1, mm ++ gd ls j, _, _, _, ⟨by omega, by rw [take_flat_s jO, ← List.append_assoc, ← hmm]⟩, rfl, rfl, rfl, rfl⟩ qI (.c 9 rfl <| za _) (.c 0 rfl <| .c 7 rfl <| .c 8 rfl <| za _) qD qD qF)))
 ·try simp only [dq] at h10
  obtain rfl : mm = m ++ ls.flatten := by rw [hmm, List.take_of_length_le jO]
  exact zR (zq (zq (zS (z4 (z6 (z8 (z5 rfl rfl (z9 rfl rfl (z7 (z4 (zi (zz rfl rfl ⟨_, _, _, rfl, rfl, rfl⟩ qD qF))))))))))))
theorem hsum_spec {s : Nat} {a : Option Addr} {len cap : Nat} {m : List UInt8} (hm : m.length ≤ 70368744177664) : Spec Tryz.prog 96 [.pointer (some ⟨s, 0, none⟩)] [] [cl s 212 ((shH (m)).map W ++ [.slice a len cap, .int .u64 (((m).length : Nat) : Int)]), own 1 5 a (len) cap ((shP (m)).map yr)] (fun v D' M' => v = .agg ((digest m).map Y).toArray ∧ D' = [] ∧ M' = [cl s 212 ((shH (m)).map W ++ [.slice a len cap, .int .u64 (((m).length : Nat) : Int)]), own 1 5 a (len) cap ((shP (m)).map yr)]) := by
 refine zC (n := 80) Tryz.func96 ?_
 intro σ D M
 have hsh := sh_len m
 have hsh1 := hsh.1
 refine xi qM (fun hol hoc => ?_)
 rw [List.length_map] at hol
 refine z6 (z8 (zL rfl ze37 (fun b2 => ?_)))
 refine z7 (z4 (z6 (z8 (z5 rfl rfl (yi rfl rfl ?_)))))
 refine zp rfl ag212 rfl qN ?_
 refine zL rfl ze212 (fun b3 => ?_)
 refine zE ag212 rfl rfl qL qO qU qW ?_
 refine z7 (z4 (z6 (z8 (yh rfl bs128 jD (zO (out := []) rfl) (fun b10 => ?_)))))
 refine z5 rfl rfl (yi rfl rfl ?_)
 refine zj rfl xp rfl ?_
 refine zh rfl yT rfl qC ?_
 refine yU (len := 0) qP (rows := []) (sz := 1) (by rfl) rfl (by simp) ?_
 refine xy rfl yz yz el5 rfl rfl qP (rd_M qM) (by first | with_reducible exact One.yr | (intro u hu; simp at hu; simp_all)) qI qI (fun a15 c15 => ?_)
 refine zj rfl xp rfl ?_
 refine yv yT rfl rfl rfl qU qE ?_
 refine z7 (z4 (z6 (z8 (zj rfl xp rfl ?_))))
 refine zh rfl yT rfl qC ?_
 refine yh rfl bs128 jD (zB rfl rfl rfl <| zO (out := []) rfl) (fun b19 => ?_)
 refine yR rfl yz el5 rfl rfl qP qM rfl qO1 qI qI (fun a20 c20 => ?_)
 refine zj rfl xp rfl ?_
 refine yv yT rfl rfl rfl qU qE ?_
 refine z7 (z4 (z6 (zr (y4 a20 ((padded m 0).map yr) qP (by simp [padded]; rfl) ?_))))
 refine zX (fun K' D' M' μ => ∃ (j : Nat) (a4 : Option Addr) (len4 cap4 : Nat), (j ≤ zn (shP m).length) ∧ K' = [] ∧ D' = [] ∧ M' = [cl b3 212 ((shH m).map W ++ [.slice a4 len4 cap4, .int .u64 ((m.length : Nat) : Int)]), own 1 5 a4 (len4) cap4 ((padded m j).map yr)] ∧ μ = zn (shP m).length - j) (.c 0 rfl <| .c 2 rfl <| .c 3 rfl <| za _) (⟨0, _, _, _, Nat.zero_le _, rfl, rfl, rfl, rfl⟩) (za _) qD qS ?_
 rintro K1 D1 M1 m1 ⟨j, a4, len4, cap4, hj, rfl, rfl, rfl, rfl⟩
 refine zF qA qA qA ?_
 refine xi qM (fun hol4 hoc4 => ?_)
 rw [List.length_map] at hol4
 have hpl : (padded m j).length = (shP m).length + 1 + j := by simp only [padded, List.length_append, List.length_replicate, List.length_singleton]
 have hzl := zn_le (k := (shP m).length)
 refine z6 (z6 (z8 (zj rfl xp rfl ?_)))
 refine zh rfl yT rfl qC ?_
 refine y2 rfl yz rfl (L.remN rfl rfl rfl qI ?_)
 refine yx rfl rfl rfl (z7 (z4 (zo rfl (fun h26 => ?_) (fun h26 => ?_))))
 ·try simp only [dq] at h26
  have hjz : j < zn (shP m).length := by have := zn_iff hsh.2.1 hj; omega
  refine zm (z4 (zr (z8 (zj rfl xp rfl ?_))))
  refine zh rfl yT rfl qC ?_
  refine yh rfl bs128 jD (zB rfl rfl rfl <| zO (out := []) rfl) (fun b29 => ?_)
  refine yR rfl yz el5 rfl rfl qP qM rfl qO1 qI qI (fun a30 c30 => ?_)
  refine zj rfl xp rfl ?_
  refine yv yT rfl rfl rfl qU qE ?_
  refine z7 (zI (z4 (y4 a30 ((padded m (j + 1)).map yr) qP (by simp [padded, List.replicate_succ']; rfl) ?_)))
  exact zM ⟨j + 1, _, _, _, qT, rfl, rfl, rfl, rfl⟩ qI (za _) (.c 0 rfl <| .c 2 rfl <| .c 3 rfl <| za _) qD qD qF
 ·try simp only [dq] at h26
  obtain rfl : j = zn (shP m).length := (zn_iff hsh.2.1 hj).1 jO
  refine zR (zq (zq (zS (z4 (z6 (z6 (z8 (z9 rfl rfl (z7 (z4 (zr (y4 a4 ((padded m (zn (shP m).length) ++ lenb m.length 0).map yr) qP (by simp [lenb]) ?_))))))))))))
  refine zX (fun K' D' M' μ => ∃ (i : Nat) (a5 : Option Addr) (len5 cap5 : Nat), (i ≤ 8) ∧ K' = [(4, .int .i64 (7 - (i : Int)))] ∧ D' = [] ∧ M' = [cl b3 212 ((shH m).map W ++ [.slice a5 len5 cap5, .int .u64 ((m.length : Nat) : Int)]), own 1 5 a5 (len5) cap5 ((padded m (zn (shP m).length) ++ lenb m.length i).map yr)] ∧ μ = 8 - i) (.c 0 rfl <| .c 2 rfl <| .c 3 rfl <| za _) (⟨0, _, _, _, Nat.zero_le _, rfl, rfl, rfl, rfl⟩) (.c 4 rfl <| za _) qD qS ?_
  rintro K1 D1 M1 m1 ⟨i, a5, len5, cap5, hi, rfl, rfl, rfl, rfl⟩
  refine zF qA qA qA ?_
  refine xi qM (fun hol5 hoc5 => ?_)
  have hl5 : len5 ≤ 300 := by
   rw [← hol5]; simp only [List.length_map, List.length_append, padded, List.length_replicate, lenb_len, List.length_singleton]; have := zn_le (k := (shP m).length); omega
  refine z6 (z6 (z8 (z5 rfl rfl (x6 rfl rfl rfl (z7 (z4 (zo rfl (fun h33 => ?_) (fun h33 => ?_))))))))
  ·try simp only [dq] at h33
   refine zm (z4 (z6 (zr (yt (clsL [1, 0, 1, 0, 1, 0, 1, 1, 1, 1, 1, 0, 2, 1, 2]) qk ?_))))
   refine ze 0 rfl rfl (zj rfl xp rfl ?_)
   refine zd (ze 2 rfl rfl (z5 rfl rfl (zd (ze 7 rfl rfl (z5 rfl rfl (zd (ze 8 rfl rfl (L.mulN rfl rfl rfl jO ?_))))))))
   refine zd (y8 (i := 1) rfl rfl rfl rfl qk qk qk qk rfl qD qF ?_)
   refine zh rfl yT rfl qC ?_
   refine zd (xn (i := 3) rfl rfl qk qk qk qk rfl qD qF rfl ?_)
   refine ze 4 rfl rfl (zj rfl fo212_2 rfl ?_)
   refine zd (y8 (i := 5) rfl rfl rfl rfl qk qk qk qk rfl qD qF ?_)
   refine zh rfl sc176 rfl qC ?_
   refine zd (ze 6 rfl rfl (L.mulU rfl rfl rfl qI ?_))
   refine zd (ze 9 rfl rfl (L.shrI rfl rfl rfl qI ?_))
   refine zd (ze 10 rfl rfl (L.convIY rfl xA zY rfl ?_))
   refine zd (zy 11 rfl (yh rfl bs128 jD (zB rfl rfl rfl <| zO (out := []) rfl) (fun b47 => ?_)))
   refine yK rfl qD qF ?_
   refine zy 12 rfl (yR rfl yz el5 rfl rfl qP qM rfl qO1 qI qI (fun a48 c48 => ?_))
   refine zw rfl qD ?_
   refine ze 13 rfl rfl (zj rfl xp rfl ?_)
   refine zd (zy 14 rfl (yv yT rfl rfl rfl qU qE ?_))
   refine zw rfl qD ?_
   refine y6 qk ?_
   refine y4 a48 ((padded m (zn (shP m).length) ++ lenb m.length (i + 1)).map yr) qP (by rw [lenb, ← List.append_assoc, map_snoc]; rfl) ?_
   refine zI (z4 (z8 (z5 rfl rfl (y7 rfl rfl rfl jO ?_))))
   rw [show (7 : Int) - (i : Int) - 1 = 7 - ((i + 1 : Nat) : Int) by omega]
   exact z9 rfl rfl (z7 (z4 (zM ⟨i + 1, _, _, _, qT, rfl, rfl, rfl, rfl⟩ qI (.c 4 rfl <| za _) (.c 0 rfl <| .c 2 rfl <| .c 3 rfl <| za _) qD qD qF)))
  ·try simp only [dq] at h33
   obtain rfl : i = 8 := by omega
   refine zR (zq (zq (zS (z4 (z6 (zr (zX (fun K' D' M' μ => ∃ (h : List W32) (q : List UInt8) (a6 : Option Addr) (len6 cap6 : Nat), (eat h q = eat (shH m) (padF m) ∧ h.length = 8 ∧ q.length % 64 = 0) ∧ K' = [] ∧ D' = [] ∧ M' = [cl b3 212 ((h).map W ++ [.slice a6 len6 cap6, .int .u64 ((m.length : Nat) : Int)]), own 1 5 a6 (len6) cap6 ((q).map yr)] ∧ μ = q.length) (.c 2 rfl <| .c 3 rfl <| za _) (⟨shH m, padF m, _, _, _, ⟨rfl, hsh.1, padF_len m⟩, rfl, rfl, rfl, rfl⟩) (za _) qD qS ?_)))))))
   rintro K1 D1 M1 m1 ⟨h, q, a6, len6, cap6, ⟨heq, hhl, hq64⟩, rfl, rfl, rfl, rfl⟩
   refine zF qA qA qA ?_
   refine xi qM (fun hol6 hoc6 => ?_)
   rw [List.length_map] at hol6
   refine z6 (z6 (z8 (zj rfl xp rfl ?_)))
   refine zh rfl yT rfl qC ?_
   refine y2 rfl yz rfl (yB rfl rfl rfl (z7 (z4 (zo rfl (fun h53 => ?_) (fun h53 => ?_)))))
   ·try simp only [dq] at h53
    refine zm (z4 (zr (z6 (z8 (zj rfl xp rfl ?_)))))
    refine zh rfl yT rfl qC ?_
    refine L.sliceTo rfl yz sz5 rfl (Bd.at (x := 64) rfl jR) qI ?_
    refine L.callB1 (A := own 1 5 a6 (len6) cap6 ((q).map yr)) rfl (ev2 rfl rfl) qS qP (fun z H => (show rsl 1 _ 64 _ ((q.take 64).map yr) z from by rw [List.map_take]; exact rsl_of_own (own_to jO H))) (block_spec (b := q.take 64) hhl) ?_
    rintro _ _ _ ⟨rfl, rfl, rfl⟩
    refine zt AppL.nil qA ?_
    have hbl : (blockF h (q.take 64)).length = 8 := by rw [blockF_len]; exact hhl
    refine z7 (z4 (z8 (zj rfl xp rfl ?_)))
    refine zh rfl yT rfl qC ?_
    refine L.sliceO rfl yz sz5 rfl (Bd.at (x := 64) rfl jR) Bd.no qP qI qI qI (fun a60 => ?_)
    refine zj rfl xp rfl ?_
    refine yv yT rfl rfl rfl qU qE ?_
    refine z7 (y4 a60 ((q.drop 64).map yr) qP (by rw [List.take_of_length_le (by simp; omega), ← List.map_drop]) ?_)
    exact zI (z4 (zM ⟨blockF h (q.take 64), q.drop 64, _, _, _, ⟨by rw [← eat_ge jO]; exact heq, by rw [blockF_len]; exact hhl, by rw [List.length_drop]; omega⟩, rfl, rfl, rfl, rfl⟩ (by rw [List.length_drop]; omega) (za _) (.c 2 rfl <| .c 3 rfl <| za _) qD qD qF))
   ·try simp only [dq] at h53
    obtain rfl : q = [] := List.length_eq_zero_iff.1 jO
    rw [eat_lt (by simp)] at heq
    have hfin : h = (eat (shH m) (padF m)).1 := by rw [← heq]
    refine zR (zq (zq (zS (z4 (z6 (z8 (zL rfl ze37 (fun b5 => ?_))))))))
    refine z7 (z4 (z6 (z6 (z8 (z5 rfl rfl (z7 (z4 (zr (T.clEq b5 ((outF h 0).map Y) qP (by rfl) ?_)))))))))
    refine zX (fun K' D' M' μ => ∃ (i : Nat), (i ≤ 32) ∧ K' = [(62, .int .i64 i)] ∧ D' = [] ∧ M' = [cl b5 37 ((outF h i).map Y)] ∧ μ = 32 - i) (.c 2 rfl <| .c 3 rfl <| .c 5 rfl <| za _) (⟨0, Nat.zero_le _, rfl, rfl, rfl, rfl⟩) (.c 62 rfl <| za _) qD qS ?_
    rintro K1 D1 M1 m1 ⟨i, hi, rfl, rfl, rfl, rfl⟩
    refine zF qA qA qA ?_
    have hofl := outF_len h i
    refine z6 (z8 (zQ rfl rfl rfl (z7 (z4 (z6 (zo rfl (fun h63 => ?_) (fun h63 => ?_)))))))
    ·try simp only [dq] at h63
     refine zm (z4 (z6 (zr (z6 (z8 (z5 rfl rfl (z9 rfl rfl (z7 (z4 (z8 (z5 rfl rfl (z5 rfl rfl (L.quoN rfl rfl rfl qI ?_)))))))))))))
     refine zj rfl fo212_0 rfl ?_
     refine yO (i := i / 4) rfl xt yP rfl rfl jR qI ?_
     refine zh rfl yV rfl qC ?_
     refine z5 rfl rfl (L.remN rfl rfl rfl qI ?_)
     refine L.mulN rfl rfl rfl jO ?_
     refine y7 rfl rfl rfl jO ?_
     refine L.shrW rfl rfl rfl (show _ = ((24 - 8 * (i % 4) : Nat) : Int) from by omega) ?_
     refine L.convWY rfl Tryz.underlying208 zY rfl ?_
     refine yO rfl Tryz.underlying37 sz5 rfl rfl rfl qI ?_
     refine yv sc5 rfl rfl rfl qU qE ?_
     refine z7 (T.clEq b5 ((outF h (i + 1)).map Y) qP (by rfl) ?_)
     refine zI (z4 (z8 (zH rfl rfl rfl jO ?_)))
     exact z5 rfl rfl (z7 (z4 (zM ⟨i + 1, qT, rfl, rfl, rfl, rfl⟩ qI (.c 62 rfl <| za _) (.c 2 rfl <| .c 3 rfl <| .c 5 rfl <| za _) qD qD qF)))
    ·try simp only [dq] at h63
     obtain rfl : i = 32 := by omega
     refine zR (zq (zq (zS (z4 (z6 (z8 (zp rfl ag37 rfl qN ?_)))))))
     refine zE ag37 rfl rfl qL qO qU qW ?_
     exact z7 (z4 (zi (T.retA rfl ag37 rfl qN ⟨by rw [hfin]; rfl, rfl, rfl⟩ qD qF)))
theorem oidof_spec {kind : Int} {a2 : Option Addr} {k c2 : Nat} {ls : List (List UInt8)} (hm : ls.flatten.length ≤ 35184372088832) (hkb : ls.length ≤ 4611686018427387904) : Spec Tryz.prog 65 [.int .i64 kind, .slice a2 k c2] [rsl 1 a2 k c2 (ls.map ys)] [] (fun v D' M' => v = .agg ((oidF kind ls.flatten).map Y).toArray ∧ D' = [] ∧ M' = []) := by
 refine zC (n := 44) Tryz.func65 ?_
 intro σ D M
 refine yH qM (fun hk2 _ => ?_)
 rw [List.length_map] at hk2
 refine z6 (z8 (zL rfl ze38 (fun b4 => ?_)))
 refine z7 (z4 (z6 (z8 (z9 rfl rfl (z7 (z4 (z6 (z6 (z8 (z5 rfl rfl (y2 rfl yL rfl (z5 rfl rfl (z7 (z4 (zr (zX (fun K' D' M' μ => ∃ (j : Nat) (nn : Int), (j ≤ ls.length ∧ nn = (((ls.take j).flatten.length : Nat) : Int)) ∧ K' = [(12, .int .i64 j), (5, .int .i64 nn)] ∧ D' = [] ∧ M' = [] ∧ μ = ls.length - j) (.c 0 rfl <| .c 1 rfl <| .c 4 rfl <| .c 10 rfl <| .c 11 rfl <| za _) (⟨0, 0, ⟨by omega, by simp⟩, rfl, rfl, rfl, rfl⟩) (.c 12 rfl <| .c 5 rfl <| za _) qD qS ?_))))))))))))))))
 rintro K1 D1 M1 m1 ⟨j, nn, ⟨hj, hnn⟩, rfl, rfl, rfl, rfl⟩
 refine zF qA qA qA ?_
 have htk := take_flat_le ls j
 refine z6 (z8 (zQ rfl rfl rfl (z7 (z4 (z6 (zo rfl (fun h13 => ?_) (fun h13 => ?_)))))))
 ·try simp only [dq] at h13
  have hlj := zJ (l := ls) (i := j) jO
  have hls : (ls.take (j + 1)).flatten.length ≤ ls.flatten.length := take_flat_le ls (j + 1)
  rw [take_flat_s jO, List.length_append] at hls
  refine zm (z4 (z6 (zr (z6 (z8 (yI rfl yL sz9 rfl rfl qM rfl qG (fun b14 o14 => ?_)))))))
  refine zh rfl sc9 rfl qC ?_
  refine z9 rfl rfl (z7 (z4 (z8 (z5 rfl rfl (z5 rfl rfl (xj rfl yy rfl (zH rfl rfl rfl jO ?_)))))))
  refine z9 rfl rfl (z7 (zI (z4 (z8 (zH rfl rfl rfl jO ?_)))))
  exact z5 rfl rfl (z7 (z4 (zM ⟨j + 1, _, ⟨by omega, by rw [take_flat_s jO, List.length_append, hnn]; rfl⟩, rfl, rfl, rfl, rfl⟩ qI (.c 12 rfl <| .c 5 rfl <| za _) (.c 0 rfl <| .c 1 rfl <| .c 4 rfl <| .c 10 rfl <| .c 11 rfl <| za _) qD qD qF)))
 ·try simp only [dq] at h13
  rw [List.take_of_length_le jO] at hnn
  subst hnn
  refine zR (zq (zq (zS (z4 (z6 (z8 (z5 rfl rfl (L.convIY rfl xf zY rfl ?_))))))))
  refine yh rfl bs128 jD (zB rfl rfl rfl <| zB rfl rfl rfl <| zB rfl rfl rfl <| zB rfl rfl rfl <| zO (out := []) rfl) (fun b23 => ?_)
  refine z9 rfl rfl (z7 (T.toOwn (len := 4) qP (rows := ([99, 114, 118, kb kind] ++ nbs ls.flatten.length 0).map yr) (sz := 1) (by rfl) rfl (by simp [nbs]) ?_))
  refine z4 (z6 (z6 (z8 (z9 rfl rfl (z7 (z4 (zr (zX (fun K' D' M' μ => ∃ (i : Nat) (a1 : Option Addr) (len1 cap1 : Nat), (i ≤ 4) ∧ K' = [(9, .int .i64 (3 - (i : Int))), (8, .slice a1 len1 cap1)] ∧ D' = [] ∧ M' = [own 1 5 a1 (len1) cap1 (([99, 114, 118, kb kind] ++ nbs ls.flatten.length i).map yr)] ∧ μ = 4 - i) (.c 1 rfl <| .c 4 rfl <| .c 5 rfl <| za _) (⟨0, _, _, _, Nat.zero_le _, rfl, rfl, rfl, rfl⟩) (.c 9 rfl <| .c 8 rfl <| za _) qD qS ?_))))))))
  rintro K1 D1 M1 m1 ⟨i, a1, len1, cap1, hi, rfl, rfl, rfl, rfl⟩
  refine zF qA qA qA ?_
  refine xi qM (fun hol hoc => ?_)
  have hl1 : len1 ≤ 300 := by
   rw [← hol]; simp only [List.length_map, List.length_append, nbs_len, List.length_cons, List.length_nil]; omega
  refine z6 (z6 (z8 (z5 rfl rfl (x6 rfl rfl rfl (z7 (z4 (zo rfl (fun h25 => ?_) (fun h25 => ?_))))))))
  ·try simp only [dq] at h25
   refine zm (z4 (z6 (zr (z8 (z5 rfl rfl (z5 rfl rfl (z5 rfl rfl (L.mulN rfl rfl rfl jO ?_))))))))
   refine L.shrI rfl rfl rfl qI ?_
   refine L.convIY rfl xf zY rfl ?_
   refine yh rfl bs128 jD (zB rfl rfl rfl <| zO (out := []) rfl) (fun b34 => ?_)
   refine yR rfl yz el5 rfl rfl qP qM rfl qO1 qI qI (fun a35 c35 => ?_)
   refine z9 rfl rfl (z7 (y4 a35 (([99, 114, 118, kb kind] ++ nbs ls.flatten.length (i + 1)).map yr) qP (by rw [nbs, ← List.append_assoc, map_snoc]; rfl) ?_))
   refine zI (z4 (z8 (z5 rfl rfl (y7 rfl rfl rfl jO ?_))))
   rw [show (3 : Int) - (i : Int) - 1 = 3 - ((i + 1 : Nat) : Int) by omega]
   exact z9 rfl rfl (z7 (z4 (zM ⟨i + 1, _, _, _, qT, rfl, rfl, rfl, rfl⟩ qI (.c 9 rfl <| .c 8 rfl <| za _) (.c 1 rfl <| .c 4 rfl <| .c 5 rfl <| za _) qD qD qF)))
  ·try simp only [dq] at h25
   obtain rfl : i = 4 := by omega
   refine yD qP ?_
   refine zR (zq (zq (zS (z4 (z6 (yt (clsL [0, 1, 0, 0, 2, 1, 2, 2, 2]) qk ?_))))))
   refine ze 1 rfl rfl (z5 rfl rfl (zd (ze 5 rfl rfl (z5 rfl rfl (zd (y8 (i := 2) rfl rfl rfl rfl qk qk qk qk rfl qD qF ?_))))))
   refine L.bytesStr rfl yz zY yy rfl qM ?_
   refine zd (xg (is := [0, 3]) qk jD (yE rfl ?_ <| yE rfl ?_ <| xh) )
   ·skip
    refine zx rfl (xu) qD qS (hnew_spec) ?_
    rintro _ _ _ ⟨s, rfl, rfl, rfl⟩
    refine zt qA qA ?_
    refine yK rfl qD qF ?_
    refine zy 3 rfl (yh rfl bs31 jD (zB rfl rfl rfl <| zO (out := []) rfl) (fun b39 => ?_))
    refine yU (len := 1) qP (rows := [oidHead kind ls.flatten.length].map ys) (sz := 1) (by rfl) rfl (by simp) ?_
    refine yZ qP ?_
    refine yK rfl qD qF ?_
    refine zy 4 rfl (zx rfl (ev2 rfl rfl) qD qS (hwrite_spec (ls := [oidHead kind ls.flatten.length]) (by simp [oidHead, nbs_len]) (by simp)) ?_)
    rintro _ _ _ ⟨a1', len1', cap1', rfl, rfl, rfl⟩
    refine zt qA qA ?_
    refine zw rfl qD ?_
    refine zy 6 rfl (zx rfl (ev2 rfl rfl) qD qS (hwrite_spec (ls := ls) (by simp only [List.nil_append, List.flatten_cons, List.flatten_nil, List.append_nil, List.length_append, oidHead, nbs_len, List.length_cons, List.length_nil]; omega) hkb) ?_)
    rintro _ _ _ ⟨a2', len2', cap2', rfl, rfl, rfl⟩
    refine zt qA qA ?_
    refine zw rfl qD ?_
    refine zy 7 rfl (zx rfl (ev1 rfl) qD qS (hsum_spec (by simp only [List.nil_append, List.flatten_cons, List.flatten_nil, List.append_nil, List.length_append, oidHead, nbs_len, List.length_cons, List.length_nil]; omega)) ?_)
    rintro _ _ _ ⟨rfl, rfl, rfl⟩
    refine zt qA qA ?_
    rw [show digest ([] ++ [oidHead kind ls.flatten.length].flatten ++ ls.flatten) = oidF kind ls.flatten from by simp only [oidF, List.nil_append, List.flatten_cons, List.flatten_nil, List.append_nil]]
    have h32 := oidF_len kind ls.flatten
    refine zw rfl qD ?_
    refine zy 8 rfl (zE zu rfl rfl qL qO qU qW ?_)
    refine zw rfl qD ?_
    refine y6 qk ?_
    exact z4 (zi (T.retA rfl zu rfl qN ⟨rfl, rfl, rfl⟩ qD qF))
   ·skip
    refine yh rfl bs31 jD (zB rfl rfl rfl <| zO (out := []) rfl) (fun b39 => ?_)
    refine yU (len := 1) qP (rows := [oidHead kind ls.flatten.length].map ys) (sz := 1) (by rfl) rfl (by simp) ?_
    refine yZ qP ?_
    refine yK rfl qD qF ?_
    refine zy 0 rfl (zx rfl (xu) qD qS (hnew_spec) ?_)
    rintro _ _ _ ⟨s, rfl, rfl, rfl⟩
    refine zt qA qA ?_
    refine yK rfl qD qF ?_
    refine zy 4 rfl (zx rfl (ev2 rfl rfl) qD qS (hwrite_spec (ls := [oidHead kind ls.flatten.length]) (by simp [oidHead, nbs_len]) (by simp)) ?_)
    rintro _ _ _ ⟨a1', len1', cap1', rfl, rfl, rfl⟩
    refine zt qA qA ?_
    refine zw rfl qD ?_
    refine zy 6 rfl (zx rfl (ev2 rfl rfl) qD qS (hwrite_spec (ls := ls) (by simp only [List.nil_append, List.flatten_cons, List.flatten_nil, List.append_nil, List.length_append, oidHead, nbs_len, List.length_cons, List.length_nil]; omega) hkb) ?_)
    rintro _ _ _ ⟨a2', len2', cap2', rfl, rfl, rfl⟩
    refine zt qA qA ?_
    refine zw rfl qD ?_
    refine zy 7 rfl (zx rfl (ev1 rfl) qD qS (hsum_spec (by simp only [List.nil_append, List.flatten_cons, List.flatten_nil, List.append_nil, List.length_append, oidHead, nbs_len, List.length_cons, List.length_nil]; omega)) ?_)
    rintro _ _ _ ⟨rfl, rfl, rfl⟩
    refine zt qA qA ?_
    rw [show digest ([] ++ [oidHead kind ls.flatten.length].flatten ++ ls.flatten) = oidF kind ls.flatten from by simp only [oidF, List.nil_append, List.flatten_cons, List.flatten_nil, List.append_nil]]
    have h32 := oidF_len kind ls.flatten
    refine zw rfl qD ?_
    refine zy 8 rfl (zE zu rfl rfl qL qO qU qW ?_)
    refine zw rfl qD ?_
    refine y6 qk ?_
    exact z4 (zi (T.retA rfl zu rfl qN ⟨rfl, rfl, rfl⟩ qD qF))
end Cv
