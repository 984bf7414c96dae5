/-
  The walks: Write, the reference of archives.
-/
import Derived.Test.YtncgoodlhmpfcaaGreatB06
import Derived.Test.YtncgoodlhmpfcaaGreatW05
set_option linter.all false
set_option maxHeartbeats 400000
set_option maxRecDepth 10000
namespace Cv
open Go Go.Proofs

theorem bopen_spec {s : List UInt8}  : Spec Tryz.prog 155 [S s] [] [] (fun v D' M' => ∃ (bb : Nat), v = .pointer (some ⟨bb, 0, none⟩) ∧ D' = [] ∧ M' = [cl bb 292 (blR ⟨s, 0⟩)]) := by
 refine zv (n := 6) Tryz.func155 ?_
 intro σ D M
 refine O (V R R (I (O (E R R (yq R bu292 (zF R R R <| zQ (out := [Value.int .i64 0]) R) ?_)))))
 refine y6 R R R (fun b5 => ?_)
 exact V R R (I (zo (zy R R ⟨_, R, R, R⟩ qD qF)))
theorem berr_spec {bb : Nat} {b : Bl}  : Spec Tryz.prog 158 [.pointer (some ⟨bb, 0, none⟩)] [] [cl bb 292 (blR (b))] (fun v D' M' => v = .int .i64 b.err ∧ D' = [] ∧ M' = [cl bb 292 (blR (b))]) := by
 refine zv (n := 7) Tryz.func158 ?_
 intro σ D M
 refine O (V R R (I (O (E R R (zJ R R ?_)))))
 refine zg R fo292_1 R ?_
 refine zf R sc39 R qC ?_
 exact V R R (I (zo (zy R R ⟨R, R, R⟩ qD qF)))
theorem bfail_spec {bb : Nat} {b : Bl} {e : Int}  : Spec Tryz.prog 202 [.pointer (some ⟨bb, 0, none⟩), .int .i64 e] [] [cl bb 292 (blR (b))] (fun v D' M' => v = .tuple #[] ∧ D' = [] ∧ M' = [cl bb 292 (blR (failB b e))]) := by
 refine zv (n := 16) Tryz.func202 ?_
 intro σ D M
 refine O (E R R (zJ R R ?_))
 refine zg R fo292_1 R ?_
 refine zf R sc39 R qC ?_
 refine yi R R R (I (zA R (fun h8 => ?_) (fun h8 => ?_)))
 ·try simp only [dq] at h8
  refine zt (E R R (E R R (E R R (zJ R R ?_))))
  refine zg R fo292_1 R ?_
  refine yj sc39 R R R qU qE ?_
  refine zJ R R ?_
  refine zg R fo292_0 R ?_
  refine yj sc9 R R R qU qE ?_
  refine zu (T.clEq bb (blR (failB b e)) qP (by rw [failB, if_pos h8]; rfl) ?_)
  exact yS (by simp) R ⟨R, R, R⟩ qD qF
 try simp only [dq] at h8
 refine zq (T.clEq bb (blR (failB b e)) qP (by rw [failB, if_neg h8]) ?_)
 exact yS (by simp) R ⟨R, R, R⟩ qD qF
theorem bclose_spec {bb : Nat} {b : Bl}  : Spec Tryz.prog 187 [.pointer (some ⟨bb, 0, none⟩)] [] [cl bb 292 (blR (b))] (fun v D' M' => v = .int .i64 (closeE b) ∧ D' = [] ∧ M' = []) := by
 refine zv (n := 14) Tryz.func187 ?_
 intro σ D M
 refine O (V R R (I (ze (O (E R R (zJ R R ?_))))))
 refine zg R fo292_0 R ?_
 refine zf R sc9 R qC ?_
 refine L.neS R R R ?_
 refine I (yx (fun K' D' M' => ∃ (b1 : Bl), (b1 = if b.left ≠ [] then failB b 2 else b) ∧ K' = [] ∧ D' = [] ∧ M' = [cl bb 292 (blR (b1))]) (M0 := [cl bb 292 (blR (b))]) (.c 0 R <| zd _) qS ?_ ?_)
 ·refine zA R (fun h7 => ?_) (fun h7 => ?_)
  ·try simp only [dq] at h7
   refine zt (E R R (zp R (ev2 R R) qD qS (bfail_spec (b := b) (e := 2)) ?_))
   rintro _ _ _ ⟨rfl, rfl, rfl⟩
   refine zm qA qA ?_
   exact I (zK ⟨_, (by rw [if_pos (by simpa using h7)]), R, R, R⟩ (zd _) (.c 0 R <| zd _) qD qD qF)
  try simp only [dq] at h7
  exact zq (z8 (zK ⟨_, (by rw [if_neg (by simpa using h7)]), R, R, R⟩ (zd _) (.c 0 R <| zd _) qD qD qF))
 rintro _ _ _ ⟨b1, hb1, rfl, rfl, rfl⟩
 refine zM qA qA qA ?_
 refine z8 (O (E R R (zJ R R ?_)))
 refine zg R fo292_1 R ?_
 refine zf R sc39 R qC ?_
 exact V R R (I (zo (zy R R ⟨congrArg (Value.int .i64) (close_eq hb1), R, R⟩ qD qF)))
theorem bbytes_spec {bb : Nat} {b : Bl} {n : Nat} (hn : n ≤ 1000000000) : Spec Tryz.prog 156 [.pointer (some ⟨bb, 0, none⟩), .int .i64 (n : Int)] [] [cl bb 292 (blR (b))] (fun v D' M' => v = S (bytB b n).1 ∧ D' = [] ∧ M' = [cl bb 292 (blR ((bytB b n).2))]) := by
 refine zv (n := 40) Tryz.func156 ?_
 intro σ D M
 refine O (V R R (I (ze (O (E R R (zW R R R (E R R (zE (t := 8) R (show _ = Value.bool false from congrArg Value.bool (decide_eq_false jO)) ?_))))))))
 refine zj 8 R R R (E R R (zj 8 R R R (E R R (zj 8 R R R (zJ R R ?_)))))
 refine zj 8 R R R (zg R fo292_0 R ?_)
 refine zj 8 R R R (zf R sc9 R qC ?_)
 refine zj 8 R R R (yL R ye R (zj 8 R R R (yy R R R (yg R R R (I (yx (fun K' D' M' => ∃ (b1 : Bl), (b1 = if (b.left.length : Int) < n then failB b 1 else b) ∧ K' = [] ∧ D' = [] ∧ M' = [cl bb 292 (blR (b1))]) (M0 := [cl bb 292 (blR (b))]) (.c 0 R <| .c 1 R <| zd _) qS ?_ ?_))))))
 ·refine zA R (fun h16 => ?_) (fun h16 => ?_)
  ·try simp only [dq] at h16
   refine zt (E R R (zp R (ev2 R R) qD qS (bfail_spec (b := b) (e := 1)) ?_))
   rintro _ _ _ ⟨rfl, rfl, rfl⟩
   refine zm qA qA ?_
   exact I (zK ⟨_, (by rw [if_pos (by simpa using h16)]), R, R, R⟩ (zd _) (.c 0 R <| .c 1 R <| zd _) qD qD qF)
  try simp only [dq] at h16
  exact zq (z8 (zK ⟨_, (by rw [if_neg (by simpa using h16)]), R, R, R⟩ (zd _) (.c 0 R <| .c 1 R <| zd _) qD qD qF))
 rintro _ _ _ ⟨b1, hb1, rfl, rfl, rfl⟩
 refine zM qA qA qA ?_
 refine z8 (ze (O (E R R (zJ R R ?_))))
 refine zg R fo292_1 R ?_
 refine zf R sc39 R qC ?_
 refine zZ R R R (I (zA R (fun h23 => ?_) (fun h23 => ?_)))
 ·try simp only [dq] at h23
  have hbe := byt_1 hb1 h23
  refine O (V R R (I (zo (zL (T.clEq bb (blR ((bytB b n).2)) qP (by rw [hbe]) ?_)))))
  exact zy R R ⟨by rw [hbe]; rfl, R, R⟩ qD qF
 try simp only [dq] at h23
 obtain ⟨rfl, hnl, hbe⟩ := byt_2 hb1 (by simpa using h23)
 refine zq (z8 (O (E R R (zJ R R ?_))))
 refine zg R fo292_0 R ?_
 refine zf R sc9 R qC ?_
 refine E R R (L.sliceS (a := 0) (b := n) R ye R R ⟨_, (by first | rfl | (congr 2; omega))⟩ qI qI ?_)
 refine V R R (I (O (E R R (E R R (zJ R R ?_)))))
 refine zg R fo292_0 R ?_
 refine zf R sc9 R qC ?_
 refine E R R (L.sliceS (a := n) (b := _) R ye R ⟨_, (by first | rfl | (congr 2; omega))⟩ R qI qI ?_)
 refine zJ R R ?_
 refine zg R fo292_0 R ?_
 refine yj sc9 R R R qU qE ?_
 refine I (O (E R R (V R R (I (zo (T.clEq bb (blR ((bytB b1 n).2)) qP (by rw [hbe]; simp) ?_))))))
 exact zy R R ⟨by rw [hbe]; simp, R, R⟩ qD qF
set_option maxHeartbeats 1000000 in
theorem bnumr_spec {bb : Nat} {b : Bl}  : Spec Tryz.prog 203 [.pointer (some ⟨bb, 0, none⟩)] [] [cl bb 292 (blR (b))] (fun v D' M' => v = .int .u64 ((numR b).1 : Int) ∧ D' = [] ∧ M' = [cl bb 292 (blR ((numR b).2))]) := by
 refine zv (n := 55) Tryz.func203 ?_
 intro σ D M
 refine O (V R R (I (O (E R R (zp R (ev2 R R) qD qS (bbytes_spec (b := b) (n := 1) jD) ?_)))))
 rintro _ _ _ ⟨rfl, rfl, rfl⟩
 refine zm qA qA ?_
 refine V R R (I (ze (O (E R R (zJ R R ?_)))))
 refine zg R fo292_1 R ?_
 refine zf R sc39 R qC ?_
 refine zZ R R R (I (zA R (fun h15 => ?_) (fun h15 => ?_)))
 ·try simp only [dq] at h15
  refine O (V R R (I (zo (zL (T.clEq bb (blR ((numR b).2)) qP (by rw [num_1 h15]; rfl) ?_)))))
  exact zy R R ⟨by rw [num_1 h15]; rfl, R, R⟩ qD qF
 try simp only [dq] at h15
 have hpe : (bytB b 1).2.err = 0 := Decidable.not_not.1 h15
 have hpl := (byt_len (b := b) (n := 1) jD hpe).1
 obtain ⟨c, hc⟩ : ∃ c, c = (bytB b 1).1.getD 0 0 := ⟨_, rfl⟩
 have hc0 : (bytB b 1).1[0]? = some c := by rw [hc, List.getD_eq_getElem?_getD, List.getElem?_eq_getElem jO]; rfl
 have hcl := c.toNat_lt
 obtain ⟨p, hp⟩ : ∃ p, p = (bytB b 1).2 := ⟨_, rfl⟩
 refine T.clEq bb (blR p) qP (by rw [hp]; rfl) ?_
 rw [show ((1 : Nat) : Int) = 1 from rfl]
 refine zq (z8 (O (E R R (L.indexS (i := 0) R ye R R jR hc0 ?_))))
 refine L.convN R zX xi R qI ?_
 refine V R R (I (ze (O (E R R (yy R R R (I (yx (fun K' D' M' => ∃ (b2 : Bl), (b2 = if 8 < c.toNat then failB p 2 else p) ∧ K' = [] ∧ D' = [] ∧ M' = [cl bb 292 (blR (b2))]) (M0 := [cl bb 292 (blR (p))]) (.c 0 R <| .c 4 R <| zd _) qS ?_ ?_)))))))
 ·refine zA R (fun h20 => ?_) (fun h20 => ?_)
  ·try simp only [dq] at h20
   refine zt (E R R (zp R (ev2 R R) qD qS (bfail_spec (b := p) (e := 2)) ?_))
   rintro _ _ _ ⟨rfl, rfl, rfl⟩
   refine zm qA qA ?_
   exact I (zK ⟨_, (by rw [if_pos jO]), R, R, R⟩ (zd _) (.c 0 R <| .c 4 R <| zd _) qD qD qF)
  try simp only [dq] at h20
  exact zq (z8 (zK ⟨_, (by rw [if_neg jO]), R, R, R⟩ (zd _) (.c 0 R <| .c 4 R <| zd _) qD qD qF))
 rintro _ _ _ ⟨b2, hb2, rfl, rfl, rfl⟩
 refine zM qA qA qA ?_
 refine z8 (O (E R R (E R R (L.minI R R R ?_))))
 rw [show min (c.toNat : Int) 8 = ((min c.toNat 8 : Nat) : Int) by omega]
 refine zp R (ev2 R R) qD qS (bbytes_spec (b := b2) (n := min c.toNat 8) jO) ?_
 rintro _ _ _ ⟨rfl, rfl, rfl⟩
 refine zm qA qA ?_
 refine V R R (zu ?_)
 have hql := byt_lenN (b := b2) (n := min c.toNat 8)
 obtain ⟨q, hq⟩ : ∃ q, q = (bytB b2 (min c.toNat 8 : Nat)).1 := ⟨_, rfl⟩
 obtain ⟨q2, hq2⟩ : ∃ q, q = (bytB b2 (min c.toNat 8 : Nat)).2 := ⟨_, rfl⟩
 rw [← hq, ← hq2]
 rw [← hq] at hql
 refine z8 (ze (ze (yx (fun K' D' M' => ∃ (w : Bool), (w = true ↔ (q ≠ [] ∧ q.getD 0 0 = 0)) ∧ K' = [(33, .bool w)] ∧ D' = [] ∧ M' = []) (M0 := []) (.c 0 R <| .c 5 R <| zd _) qS ?_ ?_)))
 ·rcases List.eq_nil_or_concat q with hqn | ⟨qt, qc, hqn⟩
  ·refine zt (E R R (L.neS R R R ?_))
   refine E R R (zE (t := 29) R (show _ = Value.bool false from congrArg Value.bool (by rw [hqn]; rfl)) ?_)
   exact zw 29 false R R R R R jD (zw 29 false R R R R R jD (zw 29 false R R R R R jD (yg R R R (I (zK ⟨_, ⟨(fun h => by cases h), (fun h => absurd hqn h.1)⟩, R, R, R⟩ (.c 33 R <| zd _) (.c 0 R <| .c 5 R <| zd _) qD qD qF)))))
  have hq0 : q[0]? = some (q.getD 0 0) := gd_first (by rw [hqn]; simp)
  refine zt (E R R (L.neS R R R ?_))
  refine E R R (zE (t := 29) R (show _ = Value.bool true from congrArg Value.bool (by rw [hqn]; simp)) ?_)
  refine zj 29 R R R (E R R (zj 29 R R R (L.indexS (i := 0) R ye R R jR hq0 ?_)))
  exact zj 29 R R R (yi R R R (ym R R R (I (zK ⟨_, (zero_arm (by rw [hqn]; simp) R), R, R, R⟩ (.c 33 R <| zd _) (.c 0 R <| .c 5 R <| zd _) qD qD qF))))
 rintro _ _ _ ⟨w, hw, rfl, rfl, rfl⟩
 refine zM qA qA qA ?_
 refine z8 (yx (fun K' D' M' => ∃ (b3 : Bl), (b3 = if q ≠ [] ∧ q.getD 0 0 = 0 then failB q2 2 else q2) ∧ K' = [] ∧ D' = [] ∧ M' = [cl bb 292 (blR (b3))]) (M0 := [cl bb 292 (blR (q2))]) (.c 0 R <| .c 5 R <| zd _) qS ?_ ?_)
 ·refine zA R (fun h33 => ?_) (fun h33 => ?_)
  ·try simp only [dq] at h33
   refine zt (E R R (zp R (ev2 R R) qD qS (bfail_spec (b := q2) (e := 2)) ?_))
   rintro _ _ _ ⟨rfl, rfl, rfl⟩
   refine zm qA qA ?_
   exact I (zK ⟨_, (by rw [if_pos (hw.1 h33)]), R, R, R⟩ (zd _) (.c 0 R <| .c 5 R <| zd _) qD qD qF)
  try simp only [dq] at h33
  exact zq (z8 (zK ⟨_, (by rw [if_neg (fun e => by rw [hw.2 e] at h33; cases h33)]), R, R, R⟩ (zd _) (.c 0 R <| .c 5 R <| zd _) qD qD qF))
 rintro _ _ _ ⟨b3, hb3, rfl, rfl, rfl⟩
 refine zM qA qA qA ?_
 have hall := num_all (b := b) (b2 := b2) (b3 := b3) hpe (by rw [← hc, ← hp]; exact hb2) (by rw [← hc, ← hq, ← hq2]; exact hb3)
 rw [← hc, ← hq] at hall
 refine z8 (O (V R R (I (ze (O (E R R (L.strBytes (l := q) R ye yz zX R (fun bb2 bc2 => ?_))))))))
 refine yb R yz R (E R R (I (zD (y8 (fun K' D' M' μ => ∃ (i v : Nat), (i ≤ q.length ∧ v = beV (q.take i)) ∧ K' = [(39, .int .i64 i), (6, .int .u64 (v : Int))] ∧ D' = [] ∧ M' = [] ∧ μ = q.length - i) (.c 0 R <| .c 37 R <| .c 38 R <| zd _) (⟨0, 0, ⟨by omega, R⟩, R, R, R, R⟩) (.c 39 R <| .c 6 R <| zd _) qD qS ?_))))
 rintro K1 D1 M1 m1 ⟨i, v, ⟨hi, hv⟩, rfl, rfl, rfl, rfl⟩
 refine zM qA qA qA ?_
 refine O (zW R R R (I (ze (zA R (fun h40 => ?_) (fun h40 => ?_)))))
 ·try simp only [dq] at h40
  refine zq (z8 (ze (zD (ze (zt ?_)))))
  have hqi : q[i]? = some (gd q i) := y9 jO
  have hdl := (gd q i).toNat_lt
  have hv56 : v < 72057594037927936 := by rw [hv]; exact beV_8 (k := i) (by rw [List.length_take]; omega) jO
  refine yP (i := i) R yz sz5 R R qM jR qG (fun b41 o41 => ?_)
  refine zf R sc5 R qC ?_
  refine V R R (I (zt (E R R (L.shlI R R R qI ?_))))
  rw [shl8 hv56]
  refine E R R (L.convU R zX xM R qI ?_)
  rw [show (((gd q i).toNat : Int)) = (((gd q i).toNat : Nat) : Int) from rfl]
  refine L.orI R R R ?_
  rw [bitsOr_u64 jO jO, or_byte _ _ hdl]
  refine V R R (zu (zS (z8 (zt (zT R R R jO ?_)))))
  exact E R R (I (zV ⟨i + 1, _, ⟨by omega, by rw [hv, ← take_snoc hqi, beV_snoc]⟩, R, R, R, R⟩ qI (.c 39 R <| .c 6 R <| zd _) (.c 0 R <| .c 37 R <| .c 38 R <| zd _) qD qD qF))
 try simp only [dq] at h40
 refine y4 (zG (zG (y5 (z8 (ze (O (E R R (zJ R R ?_))))))))
 refine zg R fo292_1 R ?_
 refine zf R sc39 R qC ?_
 refine zZ R R R (I (zA R (fun h53 => ?_) (fun h53 => ?_)))
 ·try simp only [dq] at h53
  refine O (V R R (I (zo (zL (T.clEq bb (blR ((numR b).2)) qP (by rw [hall, if_pos h53]) ?_)))))
  exact zy R R ⟨by rw [hall, if_pos h53]; rfl, R, R⟩ qD qF
 try simp only [dq] at h53
 refine zq (z8 (O (E R R (V R R (I (zo (T.clEq bb (blR ((numR b).2)) qP (by rw [hall, if_neg h53]) ?_)))))))
 exact zy R R ⟨by rw [hall, if_neg h53, hv, List.take_of_length_le jO], R, R⟩ qD qF
theorem bint_spec {bb : Nat} {b : Bl} {top : Nat} (ht : top ≤ 4611686018427387904) : Spec Tryz.prog 157 [.pointer (some ⟨bb, 0, none⟩), .int .i64 (top : Int)] [] [cl bb 292 (blR (b))] (fun v D' M' => v = .int .i64 ((intR b top).1 : Int) ∧ D' = [] ∧ M' = [cl bb 292 (blR ((intR b top).2))]) := by
 refine zv (n := 29) Tryz.func157 ?_
 intro σ D M
 have hn64 := num_64 b
 refine O (V R R (I (O (E R R (zp R (ev1 R) qD qS (bnumr_spec (b := b)) ?_)))))
 rintro _ _ _ ⟨rfl, rfl, rfl⟩
 refine zm qA qA ?_
 refine V R R (I (ze (ze (yx (fun K' D' M' => ∃ (w : Bool), (w = true ↔ ((numR b).2.err = 0 ∧ top < (numR b).1)) ∧ K' = [(19, .bool w)] ∧ D' = [] ∧ M' = []) (M0 := []) (.c 0 R <| .c 5 R <| zd _) qS ?_ ?_))))
 ·by_cases hne : (numR b).2.err = 0
  ·refine zt (E R R (zJ R R ?_))
   refine zg R fo292_1 R ?_
   refine zf R sc39 R qC ?_
   refine yi R R R (E R R (zE (t := 13) R (show _ = Value.bool true from congrArg Value.bool (decide_eq_true hne)) ?_))
   refine zj 13 R R R (E R R (zj 13 R R R (E R R (zj 13 R R R (L.maxI R R R ?_)))))
   rw [show max (top : Int) 0 = (top : Int) by omega]
   refine zj 13 R R R (L.convU R xi xM R qI ?_)
   exact zj 13 R R R (yy R R R (ym R R R (I (zK ⟨_, (by simp_all <;> omega), R, R, R⟩ (.c 19 R <| zd _) (.c 0 R <| .c 5 R <| zd _) qD qD qF))))
  refine zt (E R R (zJ R R ?_))
  refine zg R fo292_1 R ?_
  refine zf R sc39 R qC ?_
  refine yi R R R (E R R (zE (t := 13) R (show _ = Value.bool false from congrArg Value.bool (decide_eq_false hne)) ?_))
  exact zw 13 false R R R R R jD (zw 13 false R R R R R jD (zw 13 false R R R R R jD (zw 13 false R R R R R jD (zw 13 false R R R R R jD (yg R R R (I (zK ⟨_, (by simp_all <;> omega), R, R, R⟩ (.c 19 R <| zd _) (.c 0 R <| .c 5 R <| zd _) qD qD qF)))))))
 rintro _ _ _ ⟨w, hw, rfl, rfl, rfl⟩
 refine zM qA qA qA ?_
 refine z8 (yx (fun K' D' M' => ∃ (b2 : Bl), (b2 = if (numR b).2.err = 0 ∧ top < (numR b).1 then failB (numR b).2 5 else (numR b).2) ∧ K' = [] ∧ D' = [] ∧ M' = [cl bb 292 (blR (b2))]) (M0 := [cl bb 292 (blR ((numR b).2))]) (.c 0 R <| .c 5 R <| zd _) qS ?_ ?_)
 ·refine zA R (fun h19 => ?_) (fun h19 => ?_)
  ·try simp only [dq] at h19
   refine zt (E R R (zp R (ev2 R R) qD qS (bfail_spec (b := (numR b).2) (e := 5)) ?_))
   rintro _ _ _ ⟨rfl, rfl, rfl⟩
   refine zm qA qA ?_
   exact I (zK ⟨_, (by rw [if_pos (hw.1 h19)]), R, R, R⟩ (zd _) (.c 0 R <| .c 5 R <| zd _) qD qD qF)
  try simp only [dq] at h19
  exact zq (z8 (zK ⟨_, (by rw [if_neg (fun e => by rw [hw.2 e] at h19; cases h19)]), R, R, R⟩ (zd _) (.c 0 R <| .c 5 R <| zd _) qD qD qF))
 rintro _ _ _ ⟨b2, hb2, rfl, rfl, rfl⟩
 refine zM qA qA qA ?_
 have hall := int_all hb2
 have hle := int_le b top
 refine z8 (ze (O (E R R (zJ R R ?_))))
 refine zg R fo292_1 R ?_
 refine zf R sc39 R qC ?_
 refine zZ R R R (I (zA R (fun h26 => ?_) (fun h26 => ?_)))
 ·try simp only [dq] at h26
  refine O (V R R (I (zo (zL (T.clEq bb (blR ((intR b top).2)) qP (by rw [hall, if_pos h26]) ?_)))))
  exact zy R R ⟨by rw [hall, if_pos h26]; rfl, R, R⟩ qD qF
 try simp only [dq] at h26
 rw [if_neg h26] at hall
 rw [hall] at hle
 refine zq (z8 (O (E R R (L.convN R xM xi R qI ?_))))
 refine V R R (I (zo (T.clEq bb (blR ((intR b top).2)) qP (by rw [hall]) ?_)))
 exact zy R R ⟨by rw [hall], R, R⟩ qD qF
theorem bstrr_spec {bb : Nat} {b : Bl} {top : Nat} (ht : top ≤ 1000000000) : Spec Tryz.prog 229 [.pointer (some ⟨bb, 0, none⟩), .int .i64 (top : Int)] [] [cl bb 292 (blR (b))] (fun v D' M' => v = S (strR b top).1 ∧ D' = [] ∧ M' = [cl bb 292 (blR ((strR b top).2))]) := by
 refine zv (n := 10) Tryz.func229 ?_
 intro σ D M
 have hle := int_le b top
 refine O (V R R (I (O (E R R (E R R (E R R (zp R (ev2 R R) qD qS (bint_spec (b := b) (top := top) (Nat.le_trans ht jD)) ?_)))))))
 rintro _ _ _ ⟨rfl, rfl, rfl⟩
 refine zm qA qA ?_
 refine zp R (ev2 R R) qD qS (bbytes_spec (b := (intR b top).2) (n := (intR b top).1) jO) ?_
 rintro _ _ _ ⟨rfl, rfl, rfl⟩
 refine zm qA qA ?_
 refine V R R (I (zo (T.clEq bb (blR ((strR b top).2)) qP (by rfl) ?_)))
 exact zy R R ⟨R, R, R⟩ qD qF
end Cv
set_option maxRecDepth 10000
namespace Cv
open Go Go.Proofs

def PutS (x : Tr) : Prop := ∀ (a : Option Addr) (len cap : Nat) (b : Nat) (bs : List UInt8) (d : Nat), (x.count ≤ 900000) → ((chkT x d).2 = 0) → (bs.length + (putT x).length ≤ 140737488355328) → Spec Tryz.prog 115 [.pointer (some ⟨b, 0, none⟩), .agg (iRow x a len cap).toArray] [rtr x (eRow x a len cap)] [bldA 197 5 b (bs)] (fun v D' M' => v = .tuple #[] ∧ D' = [] ∧ M' = [bldA 197 5 b (bs ++ putT x)])
theorem put_spec_step (x : Tr) (ih : ∀ y ∈ x.ks, PutS y) (a : Option Addr) (len cap : Nat) (b : Nat) (bs : List UInt8) (d : Nat) (hc : x.count ≤ 900000) (hck : (chkT x d).2 = 0) (hb : bs.length + (putT x).length ≤ 140737488355328) : Spec Tryz.prog 115 [.pointer (some ⟨b, 0, none⟩), .agg (iRow x a len cap).toArray] [rtr x (eRow x a len cap)] [bldA 197 5 b (bs)] (fun v D' M' => v = .tuple #[] ∧ D' = [] ∧ M' = [bldA 197 5 b (bs ++ putT x)]) := by
 refine zv (n := 44) Tryz.func115 ?_
 intro σ D M
 refine T.trOpenR qM (fun rows hkl hrl => ?_)
 subst hkl
 refine T.kidRows qM (fun hrw => ?_)
 have hcx := x.count_eq
 have hcl := count_le_len x.ks
 obtain ⟨h0, h1⟩ := chkT_ok hck
 obtain ⟨hk, hkf, hkt, ht, hd8, hk3⟩ := own0_ok h0
 have hn1 := numB_len (n := x.k.toNat) jO
 have hn2 := numB_len (n := x.ks.length) jO
 have hpe := putT_eq x
 have hnp : (numB x.k.toNat).length ≤ (putT x).length := by rw [hpe, List.length_append]; omega
 refine O (y6 R R R (fun b3 => ?_))
 refine zu (zO (A := cl b3 44 [.int .i64 x.k, S x.t, .slice a x.ks.length cap]) qP ?_)
 refine z8 (O (E R R (zg R fo44_0 R ?_)))
 refine zf R sc3 R qC ?_
 refine yl R bs221 jD (zF R R R <| zQ (out := []) R) (fun b9 => ?_)
 refine yR (len := 1) (sz := 1) (e := 3) (rows := [x.k].map e3) qP (by rfl) R (by simp) ?_
 refine yF qP ?_
 refine zH R (ev1 R) qD qS (bnum1_spec (k := x.k) jO) jF ?_
 refine zp R (ev2 R R) qD qS (bws_spec (bs := bs) (s := numB x.k.toNat) jO) ?_
 rintro _ _ _ ⟨rfl, rfl, rfl⟩
 refine zm qA qA ?_
 refine I (ze (O (zg R fo44_0 R ?_)))
 refine zf R sc3 R qC ?_
 refine zZ R R R (I (zA R (fun h14 => ?_) (fun h14 => ?_)))
 ·try simp only [dq] at h14
  have hp3 : putT x = numB x.k.toNat ++ strB x.t := by rw [hpe, if_pos (by simpa using h14)]
  have hb3 : bs.length + ((numB x.k.toNat).length + (strB x.t).length) ≤ 140737488355328 := by rw [hp3, List.length_append] at hb; exact hb
  refine O (E R R (zg R fo44_1 R ?_))
  refine zf R sc9 R qC ?_
  refine zH R (ev1 R) qD qS (bstr_spec (s := x.t) jO) jF ?_
  refine zp R (ev2 R R) qD qS (bws_spec (bs := bs ++ numB x.k.toNat) (s := strB x.t) (by rw [List.length_append]; omega)) ?_
  rintro _ _ _ ⟨rfl, rfl, rfl⟩
  refine zm qA qA ?_
  refine I (zo (zL (y3 qP (show bldA 197 5 b (bs ++ numB x.k.toNat ++ strB x.t) = bldA 197 5 b (bs ++ putT x) from by rw [hp3]; simp) ?_)))
  exact yS (by simp) R ⟨R, R, R⟩ qD qF
 try simp only [dq] at h14
 have hp4 : putT x = numB x.k.toNat ++ (numB x.ks.length ++ putL x.ks) := by rw [hpe, if_neg (by simpa using h14)]
 have hb4 : bs.length + ((numB x.k.toNat).length + ((numB x.ks.length).length + (putL x.ks).length)) ≤ 140737488355328 := by rw [hp4, List.length_append, List.length_append] at hb; exact hb
 refine zq (z8 (O (E R R (zg R fo44_2 R ?_))))
 refine zf R sc42 R qC ?_
 refine yb R yK R (yl R bs221 jD (zF R R R <| zQ (out := []) R) (fun b24 => ?_))
 refine yR (len := 1) (sz := 1) (e := 3) (rows := [(x.ks.length : Int)].map e3) qP (by rfl) R (by simp) ?_
 refine yF qP ?_
 refine zH R (ev1 R) qD qS (bnum1_spec (k := (x.ks.length : Int)) jO) jF ?_
 refine zp R (ev2 R R) qD qS (bws_spec (bs := bs ++ numB x.k.toNat) (s := numB x.ks.length) (by rw [List.length_append]; omega)) ?_
 rintro _ _ _ ⟨rfl, rfl, rfl⟩
 refine zm qA qA ?_
 refine zu ?_
 have hpl : (putT x).length = (numB x.k.toNat).length + (numB x.ks.length).length + (putL x.ks).length := by rw [hp4]; simp; omega
 refine z8 (O (zg R fo44_2 R ?_))
 refine zf R sc42 R qC ?_
 refine yb R yK R (E R R (I (zD (y8 (fun K' D' M' μ => ∃ (i : Nat) (acc : List UInt8), ((i ≤ x.ks.length ∧ acc.length = bs.length + (numB x.k.toNat).length + (numB x.ks.length).length + (putL (x.ks.take i)).length) ∧ acc = bs ++ numB x.k.toNat ++ numB x.ks.length ++ putL (x.ks.take i)) ∧ K' = [(30, .int .i64 i)] ∧ D' = [] ∧ M' = [bldA 197 5 b (acc)] ∧ μ = x.ks.length - i) (.c 0 R <| .c 28 R <| .c 29 R <| zd _) (⟨0, bs ++ numB x.k.toNat ++ numB x.ks.length, ⟨⟨by omega, by simp only [List.take_zero, putL, List.length_append, List.length_nil]; omega⟩, by simp [putL]⟩, R, R, R, R⟩) (.c 30 R <| zd _) qD qS ?_))))
 rintro K1 D1 M1 m1 ⟨i, acc, ⟨⟨hi, hal⟩, hac⟩, rfl, rfl, rfl, rfl⟩
 refine zM qA qA qA ?_
 refine O (zW R R R (I (ze (zA R (fun h31 => ?_) (fun h31 => ?_)))))
 ·try simp only [dq] at h31
  refine zq (z8 (ze (zD (ze ?_))))
  have hy : x.ks[i]? = some (gd x.ks i) := y9 jO
  obtain ⟨y, hyy⟩ : ∃ y, y = gd x.ks i := ⟨_, rfl⟩
  rw [← hyy] at hy
  refine T.kidOpen qM hy (fun ka kl kc hr => ?_)
  have hcs := countL_step hy
  have hyn := nameB_len (h1 y (kid_mem hy)).1
  have hple := putL_le hy
  refine zt (yP (i := i) R yK sz99 R R qM jR qG (fun b32 o32 => ?_))
  refine zx R ag99 R qN ?_
  refine zC R ze99 (fun b5 => ?_)
  refine zz ag99 R R qL qO qU qW ?_
  refine zu (zO (A := cl b5 99 (eRow y ka kl kc)) qP ?_)
  refine z8 (O (E R R (zg R fo99_0 R ?_)))
  refine zf R sc9 R qC ?_
  refine zH R (ev1 R) qD qS (bstr_spec (s := y.n) jO) jF ?_
  refine zp R (ev2 R R) qD qS (bws_spec (bs := acc) (s := strB y.n) jO) ?_
  rintro _ _ _ ⟨rfl, rfl, rfl⟩
  refine zm qA qA ?_
  refine I (zt (E R R (zg R fo99_1 R ?_)))
  refine zx R yC R qN ?_
  refine zp R (ev2 R R) qD qS (ih y (kid_mem hy) ka kl kc b (acc ++ strB y.n) (d + 1) jO (h1 y (kid_mem hy)).2 (by rw [List.length_append]; omega)) ?_
  rintro _ _ _ ⟨rfl, rfl, rfl⟩
  refine zm qA qA ?_
  refine zu (zS (z8 (zt (zT R R R jO ?_))))
  exact E R R (I (zV ⟨i + 1, acc ++ strB y.n ++ putT y, ⟨⟨by omega, by rw [putL_step hy]; simp only [List.length_append]; omega⟩, by rw [putL_step hy, hac]; simp⟩, R, R, R, R⟩ qI (.c 30 R <| zd _) (.c 0 R <| .c 28 R <| .c 29 R <| zd _) qD qD qF))
 try simp only [dq] at h31
 refine y4 (zG (zG (y5 (y3 qP (show bldA 197 5 b (acc) = bldA 197 5 b (bs ++ putT x) from by rw [hp4, hac, List.take_of_length_le jO]; simp) ?_))))
 exact yS (by simp) R ⟨R, R, R⟩ qD qF
theorem put_spec (x : Tr) : PutS x := Tr.ind (p := PutS) (fun x ih a len cap b bs d hc hck hb => put_spec_step x ih a len cap b bs d hc hck hb) x
end Cv
set_option maxRecDepth 10000
namespace Cv
open Go Go.Proofs

theorem write_spec {x : Tr} (a : Option Addr) (len cap : Nat) (hc : x.count ≤ 900000) (hs : TAll Sm x) (htl : x.t.length ≤ 20000) : Spec Tryz.prog 61 [.agg (iRow x a len cap).toArray] [rtr x (eRow x a len cap)] [] (fun v D' M' => v = .tuple #[S (wrS x), .int .i64 (wrE x)] ∧ D' = [] ∧ M' = []) := by
 refine zv (n := 17) Tryz.func61 ?_
 intro σ D M
 refine O (y6 R R R (fun b1 => ?_))
 refine V R R (V R R (I (ze (O (zx R yC R qN ?_)))))
 refine zH R (ev1 R) qD qS (Chk_spec (x := x) a len cap hc hs htl) jF ?_
 refine V R R (I (O (E R R (zZ R R R (I (zA R (fun h9 => ?_) (fun h9 => ?_)))))))
 ·try simp only [dq] at h9
  refine O (E R R (V R R (V R R (I (zo (zL ?_))))))
  have hw := wr_bad (x := x) h9
  exact x8 R R R ⟨by rw [hw.1, hw.2]; rfl, R, R⟩ qD qF
 try simp only [dq] at h9
 have hce : chkE x = 0 := by simpa using h9
 refine zq (z8 (O (zC R ze197 (fun b5 => ?_))))
 refine zu (yM (sz := 1) (e := 5) ?_)
 refine T.bldMk (bs := []) (len := 0) (.inl R) R qS ?_
 refine z8 (O (zp R (ev2 R R) qD qS (bws_spec (bs := []) (s := mark) jD) ?_))
 rintro _ _ _ ⟨rfl, rfl, rfl⟩
 refine zm qA qA ?_
 refine I (O (zx R yC R qN ?_))
 refine zp R (ev2 R R) qD qS (put_spec x a len cap b5 (mark) 1 hc (chkE_T hce) (by have := putT_len x 1 (chkE_T hce) hc; first | (show (mark).length + _ ≤ _; simp only [mark, List.length_cons, List.length_nil]; omega) | (simp only [List.length_nil]; omega))) ?_
 rintro _ _ _ ⟨rfl, rfl, rfl⟩
 refine zm qA qA ?_
 refine I (ze (ze ?_))
 have hml : (mark ++ putT x).length = 4 + (putT x).length := by rw [List.length_append]; rfl
 have hpl := putT_len x 1 (chkE_T hce) hc
 refine zt (zH R (ev1 R) qD qS (bln_spec (bs := mark ++ putT x)) jF ?_)
 refine yy R R R (I (zA R (fun h15 => ?_) (fun h15 => ?_)))
 ·try simp only [dq] at h15
  refine O (V R R (V R R (I (zo (zL ?_)))))
  have hw := wr_big hce jO
  exact x8 R R R ⟨by rw [hw.1, hw.2]; rfl, R, R⟩ qD qF
 try simp only [dq] at h15
 refine zq (z8 (O (zp R (ev1 R) qD qS (bst_spec (bs := mark ++ putT x) (by simp [mark]) jO) ?_)))
 rintro _ _ _ ⟨rfl, rfl, rfl⟩
 refine zm qA qA ?_
 refine V R R (V R R (I (zo ?_)))
 have hw := wr_ok hce jO
 exact x8 R R R ⟨by rw [hw.1, hw.2], R, R⟩ qD qF
end Cv
set_option maxRecDepth 10000
namespace Cv
open Go Go.Proofs

theorem hasp_spec {s m : List UInt8}  : Spec Tryz.prog 204 [S s, S m] [] [] (fun v D' M' => v = .bool (decide (s.take m.length = m)) ∧ D' = [] ∧ M' = []) := by
 refine zv (n := 18) Tryz.func204 ?_
 intro σ D M
 refine O (V R R (I (ze ?_)))
 rcases Nat.lt_or_ge s.length m.length with hlt | hge
 ·refine zt (E R R (yL R ye R (E R R (yL R ye R (L.geI R R R (E R R (zE (t := 10) R (show _ = Value.bool false from congrArg Value.bool (decide_eq_false jO)) ?_)))))))
  exact zw 10 false R R R R R jD (zw 10 false R R R R R jD (zw 10 false R R R R R jD (zw 10 false R R R R R jD (zw 10 false R R R R R jD (zw 10 false R R R R R jD (yg R R R (V R R (I (zo (zy R R ⟨congrArg Value.bool (decide_eq_false (fun e => by have := congrArg List.length e; rw [List.length_take] at this; omega)).symm, R, R⟩ qD qF))))))))))
 refine zt (E R R (yL R ye R (E R R (yL R ye R (L.geI R R R (E R R (zE (t := 10) R (show _ = Value.bool true from congrArg Value.bool (decide_eq_true jO)) ?_)))))))
 refine zj 10 R R R (E R R (zj 10 R R R (E R R (zj 10 R R R (yL R ye R (zj 10 R R R (L.sliceS (a := 0) (b := m.length) R ye R R ⟨_, (by first | rfl | (congr 2; omega))⟩ qI qI ?_)))))))
 refine zj 10 R R R (E R R (zj 10 R R R (L.eqS R R R ?_)))
 exact ym R R R (V R R (I (zo (zy R R ⟨congrArg Value.bool (by simp), R, R⟩ qD qF))))
theorem scut_spec {s m : List UInt8}  : Spec Tryz.prog 228 [S s, S m] [] [] (fun v D' M' => v = .tuple #[S (if s.take m.length = m then s.drop m.length else s), .bool (decide (s.take m.length = m))] ∧ D' = [] ∧ M' = []) := by
 refine zv (n := 15) Tryz.func228 ?_
 intro σ D M
 refine O (V R R (V R R (I (ze (O (E R R (E R R (zH R (ev2 R R) qD qS (hasp_spec (s := s) (m := m)) jF ?_))))))))
 refine x7 R R (I (zA R (fun h9 => ?_) (fun h9 => ?_)))
 ·try simp only [dq] at h9
  refine O (E R R (V R R (V R R (I (zo (zL ?_))))))
  have hpr : ¬ s.take m.length = m := by simpa using h9
  exact x8 R R R ⟨by rw [if_neg hpr, decide_eq_false hpr], R, R⟩ qD qF
 try simp only [dq] at h9
 have hpr : s.take m.length = m := by simpa using h9
 have hml : m.length ≤ s.length := by have := congrArg List.length hpr; rw [List.length_take] at this; omega
 refine zq (z8 (O (E R R (E R R (yL R ye R (L.sliceS (a := m.length) (b := _) R ye R ⟨_, (by first | rfl | (congr 2; omega))⟩ R qI qI ?_))))))
 exact V R R (V R R (I (zo (x8 R R R ⟨by rw [if_pos hpr, decide_eq_true hpr]; simp, R, R⟩ qD qF))))
theorem cutp_spec {s m : List UInt8}  : Spec Tryz.prog 210 [S s, S m] [] [] (fun v D' M' => v = .tuple #[S (if s.take m.length = m then s.drop m.length else s), .bool (decide (s.take m.length = m))] ∧ D' = [] ∧ M' = []) := by
 refine zv (n := 11) Tryz.func210 ?_
 intro σ D M
 refine O (V R R (V R R (I (O (E R R (E R R (zH R (ev2 R R) qD qS (scut_spec (s := s) (m := m)) jF ?_)))))))
 exact zr R R R (zr R R R (V R R (V R R (I (zo (x8 R R R ⟨R, R, R⟩ qD qF))))))
end Cv
