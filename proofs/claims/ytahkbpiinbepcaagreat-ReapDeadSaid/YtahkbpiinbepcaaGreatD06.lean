/-
  The walks: Write, the reference of archives.
-/
import Derived.Test.YtahkbpiinbepcaaGreatP06
import Derived.Test.YtahkbpiinbepcaaGreatCvLe
import Derived.Test.YtahkbpiinbepcaaGreatM05
import Derived.Test.YtahkbpiinbepcaaGreatProg
import Derived.KernelRfl
import Derived.Test.YtahkbpiinbepcaaGreatB06
import Derived.Test.YtahkbpiinbepcaaGreatK05
import Derived.Test.YtahkbpiinbepcaaGreatN05
import Derived.Test.YtahkbpiinbepcaaGreatV05
set_option linter.unusedVariables false
set_option linter.unusedSimpArgs false
set_option linter.unusedSectionVars false
set_option maxHeartbeats 400000
set_option maxRecDepth 10000
namespace Cv
open Go Go.Proofs

theorem bopen_spec {s : List UInt8}  : Spec Tryz.prog 112 [S s] [] [] (fun v D' M' => ∃ (bb : Nat), v = .pointer (some ⟨bb, 0, none⟩) ∧ D' = [] ∧ M' = [cl bb 233 (blR ⟨s, 0⟩)]) := by
 refine zC (n := 6) Tryz.func112 ?_
 intro σ D M
 refine z6 (z8 (z9 rfl rfl (z7 (z4 (z6 (z8 (z5 rfl rfl (yw rfl bu233 (zB rfl rfl rfl <| zO (out := [Value.int .i64 0]) rfl) ?_))))))))
 refine yq rfl rfl rfl (fun b5 => ?_)
 exact z9 rfl rfl (z7 (z4 (zi (zz rfl rfl ⟨_, rfl, rfl, rfl⟩ qD qF))))
theorem berr_spec {bb : Nat} {b : Bl}  : Spec Tryz.prog 124 [.pointer (some ⟨bb, 0, none⟩)] [] [cl bb 233 (blR (b))] (fun v D' M' => v = .int .i64 b.err ∧ D' = [] ∧ M' = [cl bb 233 (blR (b))]) := by
 refine zC (n := 7) Tryz.func124 ?_
 intro σ D M
 refine z6 (z8 (z9 rfl rfl (z7 (z4 (z6 (z8 (z5 rfl rfl (yi rfl rfl ?_))))))))
 refine zj rfl fo233_1 rfl ?_
 refine zh rfl sc39 rfl qC ?_
 exact z9 rfl rfl (z7 (z4 (zi (zz rfl rfl ⟨rfl, rfl, rfl⟩ qD qF))))
theorem bfail_spec {bb : Nat} {b : Bl} {e : Int}  : Spec Tryz.prog 144 [.pointer (some ⟨bb, 0, none⟩), .int .i64 e] [] [cl bb 233 (blR (b))] (fun v D' M' => v = .tuple #[] ∧ D' = [] ∧ M' = [cl bb 233 (blR (failB b e))]) := by
 refine zC (n := 16) Tryz.func144 ?_
 intro σ D M
 refine z6 (z8 (z5 rfl rfl (yi rfl rfl ?_)))
 refine zj rfl fo233_1 rfl ?_
 refine zh rfl sc39 rfl qC ?_
 refine yj rfl rfl rfl (z7 (z4 (zo rfl (fun h8 => ?_) (fun h8 => ?_))))
 ·try simp only [dq] at h8
  refine z8 (z5 rfl rfl (z5 rfl rfl (z5 rfl rfl (yi rfl rfl ?_))))
  refine zj rfl fo233_1 rfl ?_
  refine yv sc39 rfl rfl rfl qU qE ?_
  refine yi rfl rfl ?_
  refine zj rfl fo233_0 rfl ?_
  refine yv sc9 rfl rfl rfl qU qE ?_
  refine z7 (T.clEq bb (blR (failB b e)) qP (by rw [failB, if_pos h8]; rfl) ?_)
  exact yW (by simp) rfl ⟨rfl, rfl, rfl⟩ qD qF
 ·try simp only [dq] at h8
  refine zm (T.clEq bb (blR (failB b e)) qP (by rw [failB, if_neg h8]) ?_)
  exact yW (by simp) rfl ⟨rfl, rfl, rfl⟩ qD qF
theorem bclose_spec {bb : Nat} {b : Bl}  : Spec Tryz.prog 116 [.pointer (some ⟨bb, 0, none⟩)] [] [cl bb 233 (blR (b))] (fun v D' M' => v = .int .i64 (closeE b) ∧ D' = [] ∧ M' = []) := by
 refine zC (n := 14) Tryz.func116 ?_
 intro σ D M
 refine z6 (z8 (z9 rfl rfl (z7 (z4 (z6 (z6 (z8 (z5 rfl rfl (yi rfl rfl ?_)))))))))
 refine zj rfl fo233_0 rfl ?_
 refine zh rfl sc9 rfl qC ?_
 refine L.neS rfl rfl rfl ?_
 refine z7 (z4 (yu (fun K' D' M' => ∃ (b1 : Bl), (b1 = if b.left ≠ [] then failB b 2 else b) ∧ K' = [] ∧ D' = [] ∧ M' = [cl bb 233 (blR (b1))]) (M0 := [cl bb 233 (blR (b))]) (.c 0 rfl <| za _) qS ?_ ?_))
 ·skip
  refine zo rfl (fun h7 => ?_) (fun h7 => ?_)
  ·try simp only [dq] at h7
   refine z8 (z5 rfl rfl (zx rfl (ev2 rfl rfl) qD qS (bfail_spec (b := b) (e := 2)) ?_))
   rintro _ _ _ ⟨rfl, rfl, rfl⟩
   refine zt qA qA ?_
   exact z7 (z4 (zK ⟨_, (by rw [if_pos (by simpa using h7)]), rfl, rfl, rfl⟩ (za _) (.c 0 rfl <| za _) qD qD qF))
  ·try simp only [dq] at h7
   exact zm (z4 (zK ⟨_, (by rw [if_neg (by simpa using h7)]), rfl, rfl, rfl⟩ (za _) (.c 0 rfl <| za _) qD qD qF))
 rintro _ _ _ ⟨b1, hb1, rfl, rfl, rfl⟩
 refine zF qA qA qA ?_
 refine z4 (z6 (z8 (z5 rfl rfl (yi rfl rfl ?_))))
 refine zj rfl fo233_1 rfl ?_
 refine zh rfl sc39 rfl qC ?_
 exact z9 rfl rfl (z7 (z4 (zi (zz rfl rfl ⟨congrArg (Value.int .i64) (close_eq hb1), rfl, rfl⟩ qD qF))))
theorem bbytes_spec {bb : Nat} {b : Bl} {n : Nat} (hn : n ≤ 1000000000) : Spec Tryz.prog 142 [.pointer (some ⟨bb, 0, none⟩), .int .i64 (n : Int)] [] [cl bb 233 (blR (b))] (fun v D' M' => v = S (bytB b n).1 ∧ D' = [] ∧ M' = [cl bb 233 (blR ((bytB b n).2))]) := by
 refine zC (n := 40) Tryz.func142 ?_
 intro σ D M
 refine z6 (z8 (z9 rfl rfl (z7 (z4 (z6 (z6 (z8 (z5 rfl rfl (zQ rfl rfl rfl (z5 rfl rfl (zv (t := 8) rfl (show _ = Value.bool false from congrArg Value.bool (decide_eq_false jO)) ?_)))))))))))
 refine zf (dj := 8) rfl rfl rfl (z5 rfl rfl (zf (dj := 8) rfl rfl rfl (z5 rfl rfl (zf (dj := 8) rfl rfl rfl (yi rfl rfl ?_)))))
 refine zf (dj := 8) rfl rfl rfl (zj rfl fo233_0 rfl ?_)
 refine zf (dj := 8) rfl rfl rfl (zh rfl sc9 rfl qC ?_)
 refine zf (dj := 8) rfl rfl rfl (xj rfl yy rfl (zf (dj := 8) rfl rfl rfl (yB rfl rfl rfl (y5 rfl rfl rfl (z7 (z4 (yu (fun K' D' M' => ∃ (b1 : Bl), (b1 = if (b.left.length : Int) < n then failB b 1 else b) ∧ K' = [] ∧ D' = [] ∧ M' = [cl bb 233 (blR (b1))]) (M0 := [cl bb 233 (blR (b))]) (.c 0 rfl <| .c 1 rfl <| za _) qS ?_ ?_)))))))
 ·skip
  refine zo rfl (fun h16 => ?_) (fun h16 => ?_)
  ·try simp only [dq] at h16
   refine z8 (z5 rfl rfl (zx rfl (ev2 rfl rfl) qD qS (bfail_spec (b := b) (e := 1)) ?_))
   rintro _ _ _ ⟨rfl, rfl, rfl⟩
   refine zt qA qA ?_
   exact z7 (z4 (zK ⟨_, (by rw [if_pos (by simpa using h16)]), rfl, rfl, rfl⟩ (za _) (.c 0 rfl <| .c 1 rfl <| za _) qD qD qF))
  ·try simp only [dq] at h16
   exact zm (z4 (zK ⟨_, (by rw [if_neg (by simpa using h16)]), rfl, rfl, rfl⟩ (za _) (.c 0 rfl <| .c 1 rfl <| za _) qD qD qF))
 rintro _ _ _ ⟨b1, hb1, rfl, rfl, rfl⟩
 refine zF qA qA qA ?_
 refine z4 (z6 (z6 (z8 (z5 rfl rfl (yi rfl rfl ?_)))))
 refine zj rfl fo233_1 rfl ?_
 refine zh rfl sc39 rfl qC ?_
 refine yx rfl rfl rfl (z7 (z4 (zo rfl (fun h23 => ?_) (fun h23 => ?_))))
 ·try simp only [dq] at h23
  have hbe := byt_1 hb1 h23
  refine z6 (z8 (z9 rfl rfl (z7 (z4 (zi (zD (T.clEq bb (blR ((bytB b n).2)) qP (by rw [hbe]) ?_)))))))
  exact zz rfl rfl ⟨by rw [hbe]; rfl, rfl, rfl⟩ qD qF
 ·try simp only [dq] at h23
  obtain ⟨rfl, hnl, hbe⟩ := byt_2 hb1 (by simpa using h23)
  refine zm (z4 (z6 (z8 (z5 rfl rfl (yi rfl rfl ?_)))))
  refine zj rfl fo233_0 rfl ?_
  refine zh rfl sc9 rfl qC ?_
  refine z5 rfl rfl (L.sliceS (a := 0) (b := n) rfl yy rfl rfl ⟨_, (by first | rfl | (congr 2; omega))⟩ qI qI ?_)
  refine z9 rfl rfl (z7 (z4 (z6 (z8 (z5 rfl rfl (z5 rfl rfl (yi rfl rfl ?_)))))))
  refine zj rfl fo233_0 rfl ?_
  refine zh rfl sc9 rfl qC ?_
  refine z5 rfl rfl (L.sliceS (a := n) (b := _) rfl yy rfl ⟨_, (by first | rfl | (congr 2; omega))⟩ rfl qI qI ?_)
  refine yi rfl rfl ?_
  refine zj rfl fo233_0 rfl ?_
  refine yv sc9 rfl rfl rfl qU qE ?_
  refine z7 (z4 (z6 (z8 (z5 rfl rfl (z9 rfl rfl (z7 (z4 (zi (T.clEq bb (blR ((bytB b1 n).2)) qP (by rw [hbe]; simp) ?_)))))))))
  exact zz rfl rfl ⟨by rw [hbe]; simp, rfl, rfl⟩ qD qF
set_option maxHeartbeats 1000000 in
theorem bnumr_spec {bb : Nat} {b : Bl}  : Spec Tryz.prog 143 [.pointer (some ⟨bb, 0, none⟩)] [] [cl bb 233 (blR (b))] (fun v D' M' => v = .int .u64 ((numR b).1 : Int) ∧ D' = [] ∧ M' = [cl bb 233 (blR ((numR b).2))]) := by
 refine zC (n := 55) Tryz.func143 ?_
 intro σ D M
 refine z6 (z8 (z9 rfl rfl (z7 (z4 (z6 (z8 (z5 rfl rfl (zx rfl (ev2 rfl rfl) qD qS (bbytes_spec (b := b) (n := 1) jD) ?_))))))))
 rintro _ _ _ ⟨rfl, rfl, rfl⟩
 refine zt qA qA ?_
 refine z9 rfl rfl (z7 (z4 (z6 (z6 (z8 (z5 rfl rfl (yi rfl rfl ?_)))))))
 refine zj rfl fo233_1 rfl ?_
 refine zh rfl sc39 rfl qC ?_
 refine yx rfl rfl rfl (z7 (z4 (zo rfl (fun h15 => ?_) (fun h15 => ?_))))
 ·try simp only [dq] at h15
  refine z6 (z8 (z9 rfl rfl (z7 (z4 (zi (zD (T.clEq bb (blR ((numR b).2)) qP (by rw [num_1 h15]; rfl) ?_)))))))
  exact zz rfl rfl ⟨by rw [num_1 h15]; rfl, rfl, rfl⟩ qD qF
 ·try simp only [dq] at h15
  have hpe : (bytB b 1).2.err = 0 := Decidable.not_not.1 h15
  have hpl := (byt_len (b := b) (n := 1) jD hpe).1
  obtain ⟨c, hc⟩ : ∃ c, c = (bytB b 1).1.getD 0 0 := ⟨_, rfl⟩
  have hc0 : (bytB b 1).1[0]? = some c := by rw [hc, List.getD_eq_getElem?_getD, List.getElem?_eq_getElem jO]; rfl
  have hcl := c.toNat_lt
  obtain ⟨p, hp⟩ : ∃ p, p = (bytB b 1).2 := ⟨_, rfl⟩
  refine T.clEq bb (blR p) qP (by rw [hp]; rfl) ?_
  rw [show ((1 : Nat) : Int) = 1 from rfl]
  refine zm (z4 (z6 (z8 (z5 rfl rfl (L.indexS (i := 0) rfl yy rfl rfl jR hc0 ?_)))))
  refine L.convN rfl zY xf rfl qI ?_
  refine z9 rfl rfl (z7 (z4 (z6 (z6 (z8 (z5 rfl rfl (yB rfl rfl rfl (z7 (z4 (yu (fun K' D' M' => ∃ (b2 : Bl), (b2 = if 8 < c.toNat then failB p 2 else p) ∧ K' = [] ∧ D' = [] ∧ M' = [cl bb 233 (blR (b2))]) (M0 := [cl bb 233 (blR (p))]) (.c 0 rfl <| .c 4 rfl <| za _) qS ?_ ?_))))))))))
  ·skip
   refine zo rfl (fun h20 => ?_) (fun h20 => ?_)
   ·try simp only [dq] at h20
    refine z8 (z5 rfl rfl (zx rfl (ev2 rfl rfl) qD qS (bfail_spec (b := p) (e := 2)) ?_))
    rintro _ _ _ ⟨rfl, rfl, rfl⟩
    refine zt qA qA ?_
    exact z7 (z4 (zK ⟨_, (by rw [if_pos jO]), rfl, rfl, rfl⟩ (za _) (.c 0 rfl <| .c 4 rfl <| za _) qD qD qF))
   ·try simp only [dq] at h20
    exact zm (z4 (zK ⟨_, (by rw [if_neg jO]), rfl, rfl, rfl⟩ (za _) (.c 0 rfl <| .c 4 rfl <| za _) qD qD qF))
  rintro _ _ _ ⟨b2, hb2, rfl, rfl, rfl⟩
  refine zF qA qA qA ?_
  refine z4 (z6 (z8 (z5 rfl rfl (z5 rfl rfl (L.minI rfl rfl rfl ?_)))))
  rw [show min (c.toNat : Int) 8 = ((min c.toNat 8 : Nat) : Int) by omega]
  refine zx rfl (ev2 rfl rfl) qD qS (bbytes_spec (b := b2) (n := min c.toNat 8) jO) ?_
  rintro _ _ _ ⟨rfl, rfl, rfl⟩
  refine zt qA qA ?_
  refine z9 rfl rfl (z7 ?_)
  have hql := byt_lenN (b := b2) (n := min c.toNat 8)
  obtain ⟨q, hq⟩ : ∃ q, q = (bytB b2 (min c.toNat 8 : Nat)).1 := ⟨_, rfl⟩
  obtain ⟨q2, hq2⟩ : ∃ q, q = (bytB b2 (min c.toNat 8 : Nat)).2 := ⟨_, rfl⟩
  rw [← hq, ← hq2]
  rw [← hq] at hql
  refine z4 (z6 (z6 (yu (fun K' D' M' => ∃ (w : Bool), (w = true ↔ (q ≠ [] ∧ q.getD 0 0 = 0)) ∧ K' = [(33, .bool w)] ∧ D' = [] ∧ M' = []) (M0 := []) (.c 0 rfl <| .c 5 rfl <| za _) qS ?_ ?_)))
  ·skip
   rcases List.eq_nil_or_concat q with hqn | ⟨qt, qc, hqn⟩
   ·skip
    refine z8 (z5 rfl rfl (L.neS rfl rfl rfl ?_))
    refine z5 rfl rfl (zv (t := 29) rfl (show _ = Value.bool false from congrArg Value.bool (by rw [hqn]; rfl)) ?_)
    exact zg (dj := 29) (c := false) rfl rfl rfl rfl rfl jD (zg (dj := 29) (c := false) rfl rfl rfl rfl rfl jD (zg (dj := 29) (c := false) rfl rfl rfl rfl rfl jD (y5 rfl rfl rfl (z7 (z4 (zK ⟨_, ⟨(fun h => by cases h), (fun h => absurd hqn h.1)⟩, rfl, rfl, rfl⟩ (.c 33 rfl <| za _) (.c 0 rfl <| .c 5 rfl <| za _) qD qD qF))))))
   ·skip
    have hq0 : q[0]? = some (q.getD 0 0) := gd_first (by rw [hqn]; simp)
    refine z8 (z5 rfl rfl (L.neS rfl rfl rfl ?_))
    refine z5 rfl rfl (zv (t := 29) rfl (show _ = Value.bool true from congrArg Value.bool (by rw [hqn]; simp)) ?_)
    refine zf (dj := 29) rfl rfl rfl (z5 rfl rfl (zf (dj := 29) rfl rfl rfl (L.indexS (i := 0) rfl yy rfl rfl jR hq0 ?_)))
    exact zf (dj := 29) rfl rfl rfl (yj rfl rfl rfl (ye rfl rfl rfl (z7 (z4 (zK ⟨_, (zero_arm (by rw [hqn]; simp) rfl), rfl, rfl, rfl⟩ (.c 33 rfl <| za _) (.c 0 rfl <| .c 5 rfl <| za _) qD qD qF)))))
  rintro _ _ _ ⟨w, hw, rfl, rfl, rfl⟩
  refine zF qA qA qA ?_
  refine z4 (yu (fun K' D' M' => ∃ (b3 : Bl), (b3 = if q ≠ [] ∧ q.getD 0 0 = 0 then failB q2 2 else q2) ∧ K' = [] ∧ D' = [] ∧ M' = [cl bb 233 (blR (b3))]) (M0 := [cl bb 233 (blR (q2))]) (.c 0 rfl <| .c 5 rfl <| za _) qS ?_ ?_)
  ·skip
   refine zo rfl (fun h33 => ?_) (fun h33 => ?_)
   ·try simp only [dq] at h33
    refine z8 (z5 rfl rfl (zx rfl (ev2 rfl rfl) qD qS (bfail_spec (b := q2) (e := 2)) ?_))
    rintro _ _ _ ⟨rfl, rfl, rfl⟩
    refine zt qA qA ?_
    exact z7 (z4 (zK ⟨_, (by rw [if_pos (hw.1 h33)]), rfl, rfl, rfl⟩ (za _) (.c 0 rfl <| .c 5 rfl <| za _) qD qD qF))
   ·try simp only [dq] at h33
    exact zm (z4 (zK ⟨_, (by rw [if_neg (fun e => by rw [hw.2 e] at h33; cases h33)]), rfl, rfl, rfl⟩ (za _) (.c 0 rfl <| .c 5 rfl <| za _) qD qD qF))
  rintro _ _ _ ⟨b3, hb3, rfl, rfl, rfl⟩
  refine zF qA qA qA ?_
  have hall := num_all (b := b) (b2 := b2) (b3 := b3) hpe (by rw [← hc, ← hp]; exact hb2) (by rw [← hc, ← hq, ← hq2]; exact hb3)
  rw [← hc, ← hq] at hall
  refine z4 (z6 (z8 (z9 rfl rfl (z7 (z4 (z6 (z6 (z8 (z5 rfl rfl (L.strBytes (l := q) rfl yy yz zY rfl (fun bb2 bc2 => ?_)))))))))))
  refine y2 rfl yz rfl (z5 rfl rfl (z7 (z4 (zr (zX (fun K' D' M' μ => ∃ (i v : Nat), (i ≤ q.length ∧ v = beV (q.take i)) ∧ K' = [(39, .int .i64 i), (6, .int .u64 (v : Int))] ∧ D' = [] ∧ M' = [] ∧ μ = q.length - i) (.c 0 rfl <| .c 37 rfl <| .c 38 rfl <| za _) (⟨0, 0, ⟨by omega, rfl⟩, rfl, rfl, rfl, rfl⟩) (.c 39 rfl <| .c 6 rfl <| za _) qD qS ?_)))))
  rintro K1 D1 M1 m1 ⟨i, v, ⟨hi, hv⟩, rfl, rfl, rfl, rfl⟩
  refine zF qA qA qA ?_
  refine z6 (z8 (zQ rfl rfl rfl (z7 (z4 (z6 (zo rfl (fun h40 => ?_) (fun h40 => ?_)))))))
  ·try simp only [dq] at h40
   refine zm (z4 (z6 (zr (z6 (z8 ?_)))))
   have hqi : q[i]? = some (gd q i) := zJ jO
   have hdl := (gd q i).toNat_lt
   have hv56 : v < 72057594037927936 := by rw [hv]; exact beV_8 (k := i) (by rw [List.length_take]; omega) jO
   refine yI (i := i) rfl yz sz5 rfl rfl qM jR qG (fun b41 o41 => ?_)
   refine zh rfl sc5 rfl qC ?_
   refine z9 rfl rfl (z7 (z4 (z8 (z5 rfl rfl (L.shlI rfl rfl rfl qI ?_)))))
   rw [shl8 hv56]
   refine z5 rfl rfl (L.convU rfl zY xA rfl qI ?_)
   rw [show (((gd q i).toNat : Int)) = (((gd q i).toNat : Nat) : Int) from rfl]
   refine L.orI rfl rfl rfl ?_
   rw [bitsOr_u64 jO jO, or_byte _ _ hdl]
   refine z9 rfl rfl (z7 (zI (z4 (z8 (zH rfl rfl rfl jO ?_)))))
   exact z5 rfl rfl (z7 (z4 (zM ⟨i + 1, _, ⟨by omega, by rw [hv, ← take_snoc hqi, beV_snoc]⟩, rfl, rfl, rfl, rfl⟩ qI (.c 39 rfl <| .c 6 rfl <| za _) (.c 0 rfl <| .c 37 rfl <| .c 38 rfl <| za _) qD qD qF)))
  ·try simp only [dq] at h40
   refine zR (zq (zq (zS (z4 (z6 (z6 (z8 (z5 rfl rfl (yi rfl rfl ?_)))))))))
   refine zj rfl fo233_1 rfl ?_
   refine zh rfl sc39 rfl qC ?_
   refine yx rfl rfl rfl (z7 (z4 (zo rfl (fun h53 => ?_) (fun h53 => ?_))))
   ·try simp only [dq] at h53
    refine z6 (z8 (z9 rfl rfl (z7 (z4 (zi (zD (T.clEq bb (blR ((numR b).2)) qP (by rw [hall, if_pos h53]) ?_)))))))
    exact zz rfl rfl ⟨by rw [hall, if_pos h53]; rfl, rfl, rfl⟩ qD qF
   ·try simp only [dq] at h53
    refine zm (z4 (z6 (z8 (z5 rfl rfl (z9 rfl rfl (z7 (z4 (zi (T.clEq bb (blR ((numR b).2)) qP (by rw [hall, if_neg h53]) ?_)))))))))
    exact zz rfl rfl ⟨by rw [hall, if_neg h53, hv, List.take_of_length_le jO], rfl, rfl⟩ qD qF
theorem bint_spec {bb : Nat} {b : Bl} {top : Nat} (ht : top ≤ 1000000000) : Spec Tryz.prog 114 [.pointer (some ⟨bb, 0, none⟩), .int .i64 (top : Int)] [] [cl bb 233 (blR (b))] (fun v D' M' => v = .int .i64 ((intR b top).1 : Int) ∧ D' = [] ∧ M' = [cl bb 233 (blR ((intR b top).2))]) := by
 refine zC (n := 29) Tryz.func114 ?_
 intro σ D M
 have hn64 := num_64 b
 refine z6 (z8 (z9 rfl rfl (z7 (z4 (z6 (z8 (z5 rfl rfl (zx rfl (ev1 rfl) qD qS (bnumr_spec (b := b)) ?_))))))))
 rintro _ _ _ ⟨rfl, rfl, rfl⟩
 refine zt qA qA ?_
 refine z9 rfl rfl (z7 (z4 (z6 (z6 (yu (fun K' D' M' => ∃ (w : Bool), (w = true ↔ ((numR b).2.err = 0 ∧ top < (numR b).1)) ∧ K' = [(19, .bool w)] ∧ D' = [] ∧ M' = []) (M0 := []) (.c 0 rfl <| .c 5 rfl <| za _) qS ?_ ?_)))))
 ·skip
  by_cases hne : (numR b).2.err = 0
  ·skip
   refine z8 (z5 rfl rfl (yi rfl rfl ?_))
   refine zj rfl fo233_1 rfl ?_
   refine zh rfl sc39 rfl qC ?_
   refine yj rfl rfl rfl (z5 rfl rfl (zv (t := 13) rfl (show _ = Value.bool true from congrArg Value.bool (decide_eq_true hne)) ?_))
   refine zf (dj := 13) rfl rfl rfl (z5 rfl rfl (zf (dj := 13) rfl rfl rfl (z5 rfl rfl (zf (dj := 13) rfl rfl rfl (L.maxI rfl rfl rfl ?_)))))
   rw [show max (top : Int) 0 = (top : Int) by omega]
   refine zf (dj := 13) rfl rfl rfl (L.convU rfl xf xA rfl qI ?_)
   exact zf (dj := 13) rfl rfl rfl (yB rfl rfl rfl (ye rfl rfl rfl (z7 (z4 (zK ⟨_, (by simp_all <;> omega), rfl, rfl, rfl⟩ (.c 19 rfl <| za _) (.c 0 rfl <| .c 5 rfl <| za _) qD qD qF)))))
  ·skip
   refine z8 (z5 rfl rfl (yi rfl rfl ?_))
   refine zj rfl fo233_1 rfl ?_
   refine zh rfl sc39 rfl qC ?_
   refine yj rfl rfl rfl (z5 rfl rfl (zv (t := 13) rfl (show _ = Value.bool false from congrArg Value.bool (decide_eq_false hne)) ?_))
   exact zg (dj := 13) (c := false) rfl rfl rfl rfl rfl jD (zg (dj := 13) (c := false) rfl rfl rfl rfl rfl jD (zg (dj := 13) (c := false) rfl rfl rfl rfl rfl jD (zg (dj := 13) (c := false) rfl rfl rfl rfl rfl jD (zg (dj := 13) (c := false) rfl rfl rfl rfl rfl jD (y5 rfl rfl rfl (z7 (z4 (zK ⟨_, (by simp_all <;> omega), rfl, rfl, rfl⟩ (.c 19 rfl <| za _) (.c 0 rfl <| .c 5 rfl <| za _) qD qD qF))))))))
 rintro _ _ _ ⟨w, hw, rfl, rfl, rfl⟩
 refine zF qA qA qA ?_
 refine z4 (yu (fun K' D' M' => ∃ (b2 : Bl), (b2 = if (numR b).2.err = 0 ∧ top < (numR b).1 then failB (numR b).2 5 else (numR b).2) ∧ K' = [] ∧ D' = [] ∧ M' = [cl bb 233 (blR (b2))]) (M0 := [cl bb 233 (blR ((numR b).2))]) (.c 0 rfl <| .c 5 rfl <| za _) qS ?_ ?_)
 ·skip
  refine zo rfl (fun h19 => ?_) (fun h19 => ?_)
  ·try simp only [dq] at h19
   refine z8 (z5 rfl rfl (zx rfl (ev2 rfl rfl) qD qS (bfail_spec (b := (numR b).2) (e := 5)) ?_))
   rintro _ _ _ ⟨rfl, rfl, rfl⟩
   refine zt qA qA ?_
   exact z7 (z4 (zK ⟨_, (by rw [if_pos (hw.1 h19)]), rfl, rfl, rfl⟩ (za _) (.c 0 rfl <| .c 5 rfl <| za _) qD qD qF))
  ·try simp only [dq] at h19
   exact zm (z4 (zK ⟨_, (by rw [if_neg (fun e => by rw [hw.2 e] at h19; cases h19)]), rfl, rfl, rfl⟩ (za _) (.c 0 rfl <| .c 5 rfl <| za _) qD qD qF))
 rintro _ _ _ ⟨b2, hb2, rfl, rfl, rfl⟩
 refine zF qA qA qA ?_
 have hall := int_all hb2
 have hle := int_le b top
 refine z4 (z6 (z6 (z8 (z5 rfl rfl (yi rfl rfl ?_)))))
 refine zj rfl fo233_1 rfl ?_
 refine zh rfl sc39 rfl qC ?_
 refine yx rfl rfl rfl (z7 (z4 (zo rfl (fun h26 => ?_) (fun h26 => ?_))))
 ·try simp only [dq] at h26
  refine z6 (z8 (z9 rfl rfl (z7 (z4 (zi (zD (T.clEq bb (blR ((intR b top).2)) qP (by rw [hall, if_pos h26]) ?_)))))))
  exact zz rfl rfl ⟨by rw [hall, if_pos h26]; rfl, rfl, rfl⟩ qD qF
 ·try simp only [dq] at h26
  rw [if_neg h26] at hall
  rw [hall] at hle
  refine zm (z4 (z6 (z8 (z5 rfl rfl (L.convN rfl xA xf rfl qI ?_)))))
  refine z9 rfl rfl (z7 (z4 (zi (T.clEq bb (blR ((intR b top).2)) qP (by rw [hall]) ?_))))
  exact zz rfl rfl ⟨by rw [hall], rfl, rfl⟩ qD qF
end Cv
set_option maxRecDepth 10000
namespace Cv
open Go Go.Proofs

def PutS (x : Tr) : Prop := ∀ (a : Option Addr) (len cap : Nat) (b : Nat) (bs : List UInt8) (d : Nat), (x.count ≤ 900000) → ((chkT x d).2 = 0) → (bs.length + (putT x).length ≤ 140737488355328) → Spec Tryz.prog 131 [.pointer (some ⟨b, 0, none⟩), .agg (iRow x a len cap).toArray] [rtr x (eRow x a len cap)] [bldA 216 5 b (bs)] (fun v D' M' => v = .tuple #[] ∧ D' = [] ∧ M' = [bldA 216 5 b (bs ++ putT x)])
theorem put_spec_step (x : Tr) (ih : ∀ y ∈ x.ks, PutS y) (a : Option Addr) (len cap : Nat) (b : Nat) (bs : List UInt8) (d : Nat) (hc : x.count ≤ 900000) (hck : (chkT x d).2 = 0) (hb : bs.length + (putT x).length ≤ 140737488355328) : Spec Tryz.prog 131 [.pointer (some ⟨b, 0, none⟩), .agg (iRow x a len cap).toArray] [rtr x (eRow x a len cap)] [bldA 216 5 b (bs)] (fun v D' M' => v = .tuple #[] ∧ D' = [] ∧ M' = [bldA 216 5 b (bs ++ putT x)]) := by
 refine zC (n := 44) Tryz.func131 ?_
 intro σ D M
 refine T.trOpenR qM (fun rows hkl hrl => ?_)
 subst hkl
 refine T.kidRows qM (fun hrw => ?_)
 have hcx := x.count_eq
 have hcl := count_le_len x.ks
 obtain ⟨h0, h1⟩ := chkT_ok hck
 obtain ⟨hk, hkf, hkt, ht, hd8, hk3⟩ := own0_ok h0
 have hn1 := numB_len (n := x.k.toNat) jO
 have hn2 := numB_len (n := x.ks.length) jO
 have hpe := putT_eq x
 have hnp : (numB x.k.toNat).length ≤ (putT x).length := by rw [hpe, List.length_append]; omega
 refine z6 (z8 (yq rfl rfl rfl (fun b3 => ?_)))
 refine z7 (y1 (A := cl b3 133 [.int .i64 x.k, S x.t, .slice a x.ks.length cap]) qP ?_)
 refine z4 (z6 (z8 (z5 rfl rfl (zj rfl fo133_0 rfl ?_))))
 refine zh rfl sc3 rfl qC ?_
 refine yh rfl bs22 jD (zB rfl rfl rfl <| zO (out := []) rfl) (fun b9 => ?_)
 refine yU (len := 1) (sz := 1) (e := 3) (rows := [x.k].map e3) qP (by rfl) rfl (by simp) ?_
 refine yZ qP ?_
 refine zW rfl (ev1 rfl) qD qS (bnum1_spec (k := x.k) jO) jF ?_
 refine zx rfl (ev2 rfl rfl) qD qS (bws_spec (bs := bs) (s := numB x.k.toNat) jO) ?_
 rintro _ _ _ ⟨rfl, rfl, rfl⟩
 refine zt qA qA ?_
 refine z7 (z4 (z6 (z6 (z8 (zj rfl fo133_0 rfl ?_)))))
 refine zh rfl sc3 rfl qC ?_
 refine yx rfl rfl rfl (z7 (z4 (zo rfl (fun h14 => ?_) (fun h14 => ?_))))
 ·try simp only [dq] at h14
  have hp3 : putT x = numB x.k.toNat ++ strB x.t := by rw [hpe, if_pos (by simpa using h14)]
  have hb3 : bs.length + ((numB x.k.toNat).length + (strB x.t).length) ≤ 140737488355328 := by rw [hp3, List.length_append] at hb; exact hb
  refine z6 (z8 (z5 rfl rfl (zj rfl fo133_1 rfl ?_)))
  refine zh rfl sc9 rfl qC ?_
  refine zW rfl (ev1 rfl) qD qS (bstr_spec (s := x.t) jO) jF ?_
  refine zx rfl (ev2 rfl rfl) qD qS (bws_spec (bs := bs ++ numB x.k.toNat) (s := strB x.t) (by rw [List.length_append]; omega)) ?_
  rintro _ _ _ ⟨rfl, rfl, rfl⟩
  refine zt qA qA ?_
  refine z7 (z4 (zi (zD (zZ qP (show bldA 216 5 b (bs ++ numB x.k.toNat ++ strB x.t) = bldA 216 5 b (bs ++ putT x) from by rw [hp3]; simp) ?_))))
  exact yW (by simp) rfl ⟨rfl, rfl, rfl⟩ qD qF
 ·try simp only [dq] at h14
  have hp4 : putT x = numB x.k.toNat ++ (numB x.ks.length ++ putL x.ks) := by rw [hpe, if_neg (by simpa using h14)]
  have hb4 : bs.length + ((numB x.k.toNat).length + ((numB x.ks.length).length + (putL x.ks).length)) ≤ 140737488355328 := by rw [hp4, List.length_append, List.length_append] at hb; exact hb
  refine zm (z4 (z6 (z8 (z5 rfl rfl (zj rfl fo133_2 rfl ?_)))))
  refine zh rfl sc131 rfl qC ?_
  refine y2 rfl xF rfl (yh rfl bs22 jD (zB rfl rfl rfl <| zO (out := []) rfl) (fun b24 => ?_))
  refine yU (len := 1) (sz := 1) (e := 3) (rows := [(x.ks.length : Int)].map e3) qP (by rfl) rfl (by simp) ?_
  refine yZ qP ?_
  refine zW rfl (ev1 rfl) qD qS (bnum1_spec (k := (x.ks.length : Int)) jO) jF ?_
  refine zx rfl (ev2 rfl rfl) qD qS (bws_spec (bs := bs ++ numB x.k.toNat) (s := numB x.ks.length) (by rw [List.length_append]; omega)) ?_
  rintro _ _ _ ⟨rfl, rfl, rfl⟩
  refine zt qA qA ?_
  refine z7 ?_
  have hpl : (putT x).length = (numB x.k.toNat).length + (numB x.ks.length).length + (putL x.ks).length := by rw [hp4]; simp; omega
  refine z4 (z6 (z8 (zj rfl fo133_2 rfl ?_)))
  refine zh rfl sc131 rfl qC ?_
  refine y2 rfl xF rfl (z5 rfl rfl (z7 (z4 (zr (zX (fun K' D' M' μ => ∃ (i : Nat) (acc : List UInt8), ((i ≤ x.ks.length ∧ acc.length = bs.length + (numB x.k.toNat).length + (numB x.ks.length).length + (putL (x.ks.take i)).length) ∧ acc = bs ++ numB x.k.toNat ++ numB x.ks.length ++ putL (x.ks.take i)) ∧ K' = [(30, .int .i64 i)] ∧ D' = [] ∧ M' = [bldA 216 5 b (acc)] ∧ μ = x.ks.length - i) (.c 0 rfl <| .c 28 rfl <| .c 29 rfl <| za _) (⟨0, bs ++ numB x.k.toNat ++ numB x.ks.length, ⟨⟨by omega, by simp only [List.take_zero, putL, List.length_append, List.length_nil]; omega⟩, by simp [putL]⟩, rfl, rfl, rfl, rfl⟩) (.c 30 rfl <| za _) qD qS ?_)))))
  rintro K1 D1 M1 m1 ⟨i, acc, ⟨⟨hi, hal⟩, hac⟩, rfl, rfl, rfl, rfl⟩
  refine zF qA qA qA ?_
  refine z6 (z8 (zQ rfl rfl rfl (z7 (z4 (z6 (zo rfl (fun h31 => ?_) (fun h31 => ?_)))))))
  ·try simp only [dq] at h31
   refine zm (z4 (z6 (zr (z6 ?_))))
   have hy : x.ks[i]? = some (gd x.ks i) := zJ jO
   obtain ⟨y, hyy⟩ : ∃ y, y = gd x.ks i := ⟨_, rfl⟩
   rw [← hyy] at hy
   refine T.kidOpen qM hy (fun ka kl kc hr => ?_)
   have hcs := countL_step hy
   have hyn := nameB_len (h1 y (kid_mem hy)).1
   have hple := putL_le hy
   refine z8 (yI (i := i) rfl xF sz255 rfl rfl qM jR qG (fun b32 o32 => ?_))
   refine zp rfl ag255 rfl qN ?_
   refine zL rfl ze255 (fun b5 => ?_)
   refine zE ag255 rfl rfl qL qO qU qW ?_
   refine z7 (y1 (A := cl b5 255 (eRow y ka kl kc)) qP ?_)
   refine z4 (z6 (z8 (z5 rfl rfl (zj rfl fo255_0 rfl ?_))))
   refine zh rfl sc9 rfl qC ?_
   refine zW rfl (ev1 rfl) qD qS (bstr_spec (s := y.n) jO) jF ?_
   refine zx rfl (ev2 rfl rfl) qD qS (bws_spec (bs := acc) (s := strB y.n) jO) ?_
   rintro _ _ _ ⟨rfl, rfl, rfl⟩
   refine zt qA qA ?_
   refine z7 (z4 (z8 (z5 rfl rfl (zj rfl fo255_1 rfl ?_))))
   refine zp rfl ag133 rfl qN ?_
   refine zx rfl (ev2 rfl rfl) qD qS (ih y (kid_mem hy) ka kl kc b (acc ++ strB y.n) (d + 1) jO (h1 y (kid_mem hy)).2 (by rw [List.length_append]; omega)) ?_
   rintro _ _ _ ⟨rfl, rfl, rfl⟩
   refine zt qA qA ?_
   refine z7 (zI (z4 (z8 (zH rfl rfl rfl jO ?_))))
   exact z5 rfl rfl (z7 (z4 (zM ⟨i + 1, acc ++ strB y.n ++ putT y, ⟨⟨by omega, by rw [putL_step hy]; simp only [List.length_append]; omega⟩, by rw [putL_step hy, hac]; simp⟩, rfl, rfl, rfl, rfl⟩ qI (.c 30 rfl <| za _) (.c 0 rfl <| .c 28 rfl <| .c 29 rfl <| za _) qD qD qF)))
  ·try simp only [dq] at h31
   refine zR (zq (zq (zS (zZ qP (show bldA 216 5 b (acc) = bldA 216 5 b (bs ++ putT x) from by rw [hp4, hac, List.take_of_length_le jO]; simp) ?_))))
   exact yW (by simp) rfl ⟨rfl, rfl, rfl⟩ qD qF
theorem put_spec (x : Tr) : PutS x := Tr.ind (p := PutS) (fun x ih a len cap b bs d hc hck hb => put_spec_step x ih a len cap b bs d hc hck hb) x
end Cv
set_option maxRecDepth 10000
namespace Cv
open Go Go.Proofs

theorem write_spec {x : Tr} (a : Option Addr) (len cap : Nat) (hc : x.count ≤ 900000) (hs : TAll Sm x) (htl : x.t.length ≤ 20000) : Spec Tryz.prog 98 [.agg (iRow x a len cap).toArray] [rtr x (eRow x a len cap)] [] (fun v D' M' => v = .tuple #[S (wrS x), .int .i64 (wrE x)] ∧ D' = [] ∧ M' = []) := by
 refine zC (n := 17) Tryz.func98 ?_
 intro σ D M
 refine z6 (z8 (yq rfl rfl rfl (fun b1 => ?_)))
 refine z9 rfl rfl (z9 rfl rfl (z7 (z4 (z6 (z6 (z8 (zp rfl ag133 rfl qN ?_)))))))
 refine zW rfl (ev1 rfl) qD qS (Chk_spec (x := x) a len cap hc hs htl) jF ?_
 refine z9 rfl rfl (z7 (z4 (z6 (z8 (z5 rfl rfl (yx rfl rfl rfl (z7 (z4 (zo rfl (fun h9 => ?_) (fun h9 => ?_))))))))))
 ·try simp only [dq] at h9
  refine z6 (z8 (z5 rfl rfl (z9 rfl rfl (z9 rfl rfl (z7 (z4 (zi (zD ?_))))))))
  have hw := wr_bad (x := x) h9
  exact xe rfl rfl rfl ⟨by rw [hw.1, hw.2]; rfl, rfl, rfl⟩ qD qF
 ·try simp only [dq] at h9
  have hce : chkE x = 0 := by simpa using h9
  refine zm (z4 (z6 (z8 (zL rfl ze216 (fun b5 => ?_)))))
  refine z7 (yF (sz := 1) (e := 5) ?_)
  refine T.bldMk (bs := []) (len := 0) (.inl rfl) rfl qS ?_
  refine z4 (z6 (z8 (zx rfl (ev2 rfl rfl) qD qS (bws_spec (bs := []) (s := mark) jD) ?_)))
  rintro _ _ _ ⟨rfl, rfl, rfl⟩
  refine zt qA qA ?_
  refine z7 (z4 (z6 (z8 (zp rfl ag133 rfl qN ?_))))
  refine zx rfl (ev2 rfl rfl) qD qS (put_spec x a len cap b5 (mark) 1 hc (chkE_T hce) (by have := putT_len x 1 (chkE_T hce) hc; first | (show (mark).length + _ ≤ _; simp only [mark, List.length_cons, List.length_nil]; omega) | (simp only [List.length_nil]; omega))) ?_
  rintro _ _ _ ⟨rfl, rfl, rfl⟩
  refine zt qA qA ?_
  refine z7 (z4 (z6 (z6 ?_)))
  have hml : (mark ++ putT x).length = 4 + (putT x).length := by rw [List.length_append]; rfl
  have hpl := putT_len x 1 (chkE_T hce) hc
  refine z8 (zW rfl (ev1 rfl) qD qS (bln_spec (bs := mark ++ putT x)) jF ?_)
  refine yB rfl rfl rfl (z7 (z4 (zo rfl (fun h15 => ?_) (fun h15 => ?_))))
  ·try simp only [dq] at h15
   refine z6 (z8 (z9 rfl rfl (z9 rfl rfl (z7 (z4 (zi (zD ?_)))))))
   have hw := wr_big hce jO
   exact xe rfl rfl rfl ⟨by rw [hw.1, hw.2]; rfl, rfl, rfl⟩ qD qF
  ·try simp only [dq] at h15
   refine zm (z4 (z6 (z8 (zx rfl (ev1 rfl) qD qS (bst_spec (bs := mark ++ putT x) (by simp [mark]) jO) ?_))))
   rintro _ _ _ ⟨rfl, rfl, rfl⟩
   refine zt qA qA ?_
   refine z9 rfl rfl (z9 rfl rfl (z7 (z4 (zi ?_))))
   have hw := wr_ok hce jO
   exact xe rfl rfl rfl ⟨by rw [hw.1, hw.2], rfl, rfl⟩ qD qF
end Cv
set_option maxRecDepth 10000
namespace Cv
open Go Go.Proofs

theorem rbytes_spec {b : Bl} {n : Nat} (hn : n ≤ 1000000000) : Spec Tryz.prog 91 [.agg (blR b).toArray, .int .i64 (n : Int)] [] [] (fun v D' M' => v = .tuple #[.agg (blR (bytB b n).2).toArray, S (bytB b n).1] ∧ D' = [] ∧ M' = []) := by
 refine zC (n := 29) Tryz.func91 ?_
 intro σ D M
 refine z6 (z8 (yq rfl rfl rfl (fun b2 => ?_)))
 refine zL rfl ze165 (fun b4 => ?_)
 refine z9 rfl rfl (z7 (y1 (A := cl b2 165 (blR b)) qP ?_))
 refine z4 (z6 (z6 (z8 (zj rfl fo165_1 rfl ?_))))
 refine zh rfl sc3 rfl qC ?_
 refine yx rfl rfl rfl (z7 (z4 (zo rfl (fun h8 => ?_) (fun h8 => ?_))))
 ·try simp only [dq] at h8
  refine z6 (z8 (zp rfl yn rfl qN ?_))
  refine zE yn rfl rfl qL qO qU qW ?_
  refine z9 rfl rfl (z7 (z4 (zi (zD ?_))))
  have hbe := byt_bad (b := b) (n := n) h8
  exact yN rfl yn rfl qN rfl ⟨by rw [hbe]; rfl, rfl, rfl⟩ qD qF
 ·try simp only [dq] at h8
  refine zm (z4 (z6 (z6 (z8 (z5 rfl rfl (zQ rfl rfl rfl (z5 rfl rfl (zv (t := 12) rfl (show _ = Value.bool false from congrArg Value.bool (decide_eq_false jO)) ?_))))))))
  refine zf (dj := 12) rfl rfl rfl (z5 rfl rfl (zf (dj := 12) rfl rfl rfl (zj rfl fo165_0 rfl ?_)))
  refine zf (dj := 12) rfl rfl rfl (zh rfl sc9 rfl qC ?_)
  refine zf (dj := 12) rfl rfl rfl (xj rfl yy rfl (zf (dj := 12) rfl rfl rfl (yB rfl rfl rfl (y5 rfl rfl rfl (z7 (z4 (zo rfl (fun h18 => ?_) (fun h18 => ?_))))))))
  ·try simp only [dq] at h18
   refine z6 (z8 (yw rfl bu165 (zB rfl rfl rfl <| zB rfl rfl rfl <| zO (out := []) rfl) ?_))
   refine zE yn rfl rfl qL qO qU qW ?_
   refine z9 rfl rfl (z7 (z4 (zi (zD ?_))))
   have hbe := byt_out (b := b) (n := n) jO jO
   exact yN rfl yn rfl qN rfl ⟨by rw [hbe]; rfl, rfl, rfl⟩ qD qF
  ·try simp only [dq] at h18
   have hbe := byt_ok (b := b) (n := n) jO jO
   refine zm (z4 (z6 (yt (clsL [1, 1, 1, 1, 1, 1, 1, 1, 1, 2, 1]) qk ?_)))
   refine ze 0 rfl rfl (zj rfl fo165_0 rfl ?_)
   refine zd (ze 1 rfl rfl (zh rfl sc9 rfl qC ?_))
   refine zd (ze 2 rfl rfl (z5 rfl rfl (zd (ze 3 rfl rfl (L.sliceS (a := n) (b := _) rfl yy rfl ⟨_, (by first | rfl | (congr 2; omega))⟩ rfl qI qI ?_)))))
   refine zd (ze 4 rfl rfl (yw rfl bu165 (zB rfl rfl rfl <| zB rfl rfl rfl <| zO (out := []) rfl) ?_))
   refine zd (ze 5 rfl rfl (zj rfl fo165_0 rfl ?_))
   refine zd (ze 6 rfl rfl (zh rfl sc9 rfl qC ?_))
   refine zd (ze 7 rfl rfl (z5 rfl rfl (zd (ze 8 rfl rfl (L.sliceS (a := 0) (b := n) rfl yy rfl rfl ⟨_, (by first | rfl | (congr 2; omega))⟩ qI qI ?_)))))
   refine zd (zy 9 rfl (zE yn rfl rfl qL qO qU qW ?_))
   refine zw rfl qD ?_
   refine ze 10 rfl rfl (z9 rfl rfl (zd (y6 qk ?_)))
   exact z4 (zi (yN rfl yn rfl qN rfl ⟨by rw [hbe]; simp, rfl, rfl⟩ qD qF))
theorem rtnum_spec {b : Bl}  : Spec Tryz.prog 126 [.agg (blR b).toArray] [] [] (fun v D' M' => v = .tuple #[.agg (blR (numR b).2).toArray, .int .u64 ((numR b).1 : Int)] ∧ D' = [] ∧ M' = []) := by
 refine zC (n := 57) Tryz.func126 ?_
 intro σ D M
 refine z6 (z8 (yq rfl rfl rfl (fun b1 => ?_)))
 refine zL rfl ze165 (fun b2 => ?_)
 refine z9 rfl rfl (z7 (z4 (z6 (z8 (zp rfl yn rfl qN ?_)))))
 refine zW rfl (ev2 rfl rfl) qD qS (rbytes_spec (b := b) (n := 1) jD) jF ?_
 refine z5 rfl rfl (zG rfl rfl rfl (zG rfl rfl rfl (zE yn rfl rfl qL qO qU qW ?_)))
 refine z9 rfl rfl (z7 (z4 (z6 (z6 (z8 (zj rfl fo165_1 rfl ?_))))))
 refine zh rfl sc3 rfl qC ?_
 refine yx rfl rfl rfl (z7 (z4 (zo rfl (fun h16 => ?_) (fun h16 => ?_))))
 ·try simp only [dq] at h16
  refine z6 (z8 (zp rfl yn rfl qN ?_))
  refine zE yn rfl rfl qL qO qU qW ?_
  exact z9 rfl rfl (z7 (z4 (zi (zD (yN rfl yn rfl qN rfl ⟨by rw [num_1 h16]; rfl, rfl, rfl⟩ qD qF)))))
 ·try simp only [dq] at h16
  have hpe : (bytB b 1).2.err = 0 := Decidable.not_not.1 h16
  have hpl := (byt_len (b := b) (n := 1) jD hpe).1
  obtain ⟨c, hc⟩ : ∃ c, c = (bytB b 1).1.getD 0 0 := ⟨_, rfl⟩
  have hc0 : (bytB b 1).1[0]? = some c := by rw [hc, List.getD_eq_getElem?_getD, List.getElem?_eq_getElem jO]; rfl
  have hcl := c.toNat_lt
  rw [show ((1 : Nat) : Int) = 1 from rfl]
  refine zm (z4 (z6 (z8 (z5 rfl rfl (L.indexS (i := 0) rfl yy rfl rfl jR hc0 ?_)))))
  refine L.convN rfl zY xf rfl qI ?_
  refine z9 rfl rfl (z7 (z4 (z6 (z6 (z8 (z5 rfl rfl (yB rfl rfl rfl (z7 (z4 (zo rfl (fun h22 => ?_) (fun h22 => ?_)))))))))))
  ·try simp only [dq] at h22
   refine z6 (z8 (yw rfl bu165 (zB rfl rfl rfl <| zB rfl rfl rfl <| zO (out := []) rfl) ?_))
   refine zE yn rfl rfl qL qO qU qW ?_
   exact z9 rfl rfl (z7 (z4 (zi (zD (yN rfl yn rfl qN rfl ⟨by rw [num_2 hpe (by rw [← hc]; omega)]; rfl, rfl, rfl⟩ qD qF)))))
  ·try simp only [dq] at h22
   have hn8 : ¬ 8 < c.toNat := by omega
   refine zm (z4 (z6 (z8 (zp rfl yn rfl qN ?_))))
   refine z5 rfl rfl (zW rfl (ev2 rfl rfl) qD qS (rbytes_spec (b := (bytB b 1).2) (n := c.toNat) jO) jF ?_)
   refine z5 rfl rfl (zG rfl rfl rfl (zG rfl rfl rfl (zE yn rfl rfl qL qO qU qW ?_)))
   refine z9 rfl rfl (z7 (z4 (z6 (z6 (z8 (zj rfl fo165_1 rfl ?_))))))
   refine zh rfl sc3 rfl qC ?_
   refine yx rfl rfl rfl (z7 (z4 (zo rfl (fun h32 => ?_) (fun h32 => ?_))))
   ·try simp only [dq] at h32
    refine z6 (z8 (zp rfl yn rfl qN ?_))
    refine zE yn rfl rfl qL qO qU qW ?_
    exact z9 rfl rfl (z7 (z4 (zi (zD (yN rfl yn rfl qN rfl ⟨by rw [num_3 hpe (by rw [← hc]; omega) (by rw [← hc]; exact h32), ← hc]; rfl, rfl, rfl⟩ qD qF)))))
   ·try simp only [dq] at h32
    have hqe : (bytB (bytB b 1).2 c.toNat).2.err = 0 := Decidable.not_not.1 h32
    have hql := byt_lenN (b := (bytB b 1).2) (n := c.toNat)
    obtain ⟨q, hq⟩ : ∃ q, q = (bytB (bytB b 1).2 c.toNat).1 := ⟨_, rfl⟩
    rw [← hq]
    rw [← hq] at hql
    refine zm (z4 (z6 (z6 (yu (fun K' D' M' => ∃ (w : Bool), (w = true ↔ (q ≠ [] ∧ q.getD 0 0 = 0)) ∧ K' = [(40, .bool w)] ∧ D' = [] ∧ M' = []) (M0 := []) (.c 1 rfl <| .c 2 rfl <| .c 6 rfl <| za _) qS ?_ ?_))))
    ·skip
     rcases List.eq_nil_or_concat q with hqn | ⟨qt, qc, hqn⟩
     ·skip
      refine z8 (z5 rfl rfl (L.neS rfl rfl rfl ?_))
      refine z5 rfl rfl (zv (t := 36) rfl (show _ = Value.bool false from congrArg Value.bool (by rw [hqn]; rfl)) ?_)
      exact zg (dj := 36) (c := false) rfl rfl rfl rfl rfl jD (zg (dj := 36) (c := false) rfl rfl rfl rfl rfl jD (zg (dj := 36) (c := false) rfl rfl rfl rfl rfl jD (y5 rfl rfl rfl (z7 (z4 (zK ⟨_, ⟨(fun h => by cases h), (fun h => absurd hqn h.1)⟩, rfl, rfl, rfl⟩ (.c 40 rfl <| za _) (.c 1 rfl <| .c 2 rfl <| .c 6 rfl <| za _) qD qD qF))))))
     ·skip
      have hq0 : q[0]? = some (q.getD 0 0) := gd_first (by rw [hqn]; simp)
      refine z8 (z5 rfl rfl (L.neS rfl rfl rfl ?_))
      refine z5 rfl rfl (zv (t := 36) rfl (show _ = Value.bool true from congrArg Value.bool (by rw [hqn]; simp)) ?_)
      refine zf (dj := 36) rfl rfl rfl (z5 rfl rfl (zf (dj := 36) rfl rfl rfl (L.indexS (i := 0) rfl yy rfl rfl jR hq0 ?_)))
      exact zf (dj := 36) rfl rfl rfl (yj rfl rfl rfl (ye rfl rfl rfl (z7 (z4 (zK ⟨_, (zero_arm (by rw [hqn]; simp) rfl), rfl, rfl, rfl⟩ (.c 40 rfl <| za _) (.c 1 rfl <| .c 2 rfl <| .c 6 rfl <| za _) qD qD qF)))))
    rintro _ _ _ ⟨w, hw, rfl, rfl, rfl⟩
    refine zF qA qA qA ?_
    refine z4 (zo rfl (fun h40 => ?_) (fun h40 => ?_))
    ·try simp only [dq] at h40
     refine z6 (z8 (yw rfl bu165 (zB rfl rfl rfl <| zB rfl rfl rfl <| zO (out := []) rfl) ?_))
     refine zE yn rfl rfl qL qO qU qW ?_
     exact z9 rfl rfl (z7 (z4 (zi (zD (yN rfl yn rfl qN rfl ⟨by rw [num_4 hpe (by rw [← hc]; exact hn8) (by rw [← hc]; exact hqe) (by rw [← hc, ← hq]; exact hw.1 h40)]; rfl, rfl, rfl⟩ qD qF)))))
    ·try simp only [dq] at h40
     have hz0 : ¬ (q ≠ [] ∧ q.getD 0 0 = 0) := fun e => by rw [hw.2 e] at h40; cases h40
     refine zm (z4 (z6 (z8 (z9 rfl rfl (z7 (z4 (z6 (z6 (z8 (z9 rfl rfl (z7 (z4 (zr (zX (fun K' D' M' μ => ∃ (i v : Nat), (i ≤ q.length ∧ v = beV (q.take i)) ∧ K' = [(8, .int .i64 i), (7, .int .u64 (v : Int))] ∧ D' = [] ∧ M' = [] ∧ μ = q.length - i) (.c 1 rfl <| .c 2 rfl <| .c 6 rfl <| za _) (⟨0, 0, ⟨by omega, rfl⟩, rfl, rfl, rfl, rfl⟩) (.c 8 rfl <| .c 7 rfl <| za _) qD qS ?_))))))))))))))
     rintro K1 D1 M1 m1 ⟨i, v, ⟨hi, hv⟩, rfl, rfl, rfl, rfl⟩
     refine zF qA qA qA ?_
     refine z6 (z6 (z8 (z5 rfl rfl (z5 rfl rfl (xj rfl yy rfl (zQ rfl rfl rfl (z7 (z4 (zo rfl (fun h45 => ?_) (fun h45 => ?_))))))))))
     ·try simp only [dq] at h45
      refine zm (z4 (z6 (zr ?_)))
      have hqi : q[i]? = some (gd q i) := zJ jO
      have hdl := (gd q i).toNat_lt
      have hv56 : v < 72057594037927936 := by rw [hv]; exact beV_8 (k := i) (by rw [List.length_take]; omega) jO
      refine z8 (z5 rfl rfl (L.mulU rfl rfl rfl qI ?_))
      refine z5 rfl rfl (z5 rfl rfl (L.indexS (i := i) rfl yy rfl rfl jR (by first | assumption | exact zJ qL) ?_))
      refine L.convU rfl zY xA rfl qI ?_
      refine L.addU rfl rfl rfl qI ?_
      rw [show ((v : Int) * 256 + (((gd q i).toNat : Nat) : Int)) = ((v * 256 + (gd q i).toNat : Nat) : Int) by omega]
      refine z9 rfl rfl (z7 (zI (z4 (z8 (z5 rfl rfl (zH rfl rfl rfl jO ?_))))))
      exact z9 rfl rfl (z7 (z4 (zM ⟨i + 1, _, ⟨by omega, by rw [hv, ← take_snoc hqi, beV_snoc]⟩, rfl, rfl, rfl, rfl⟩ qI (.c 8 rfl <| .c 7 rfl <| za _) (.c 1 rfl <| .c 2 rfl <| .c 6 rfl <| za _) qD qD qF)))
     ·try simp only [dq] at h45
      refine zR (zq (zq (zS (z4 (z6 (z8 (zp rfl yn rfl qN ?_)))))))
      refine z5 rfl rfl (zE yn rfl rfl qL qO qU qW ?_)
      exact z9 rfl rfl (z7 (z4 (zi (yN rfl yn rfl qN rfl ⟨by rw [num_5 hpe (by rw [← hc]; exact hn8) (by rw [← hc]; exact hqe) (by rw [← hc, ← hq]; exact hz0), ← hc, ← hq, hv, List.take_of_length_le jO], rfl, rfl⟩ qD qF))))
theorem rint_spec {b : Bl} {top : Nat} (ht : top ≤ 1000000000) : Spec Tryz.prog 90 [.agg (blR b).toArray, .int .i64 (top : Int)] [] [] (fun v D' M' => v = .tuple #[.agg (blR (intR b top).2).toArray, .int .i64 ((intR b top).1 : Int)] ∧ D' = [] ∧ M' = []) := by
 refine zC (n := 25) Tryz.func90 ?_
 intro σ D M
 have hn64 := num_64 b
 refine z6 (z8 (yq rfl rfl rfl (fun b2 => ?_)))
 refine zL rfl ze165 (fun b4 => ?_)
 refine z9 rfl rfl (z7 (z4 (z6 (z8 (zp rfl yn rfl qN ?_)))))
 refine zW rfl (ev1 rfl) qD qS (rtnum_spec (b := b)) jF ?_
 refine z5 rfl rfl (zG rfl rfl rfl (zG rfl rfl rfl (zE yn rfl rfl qL qO qU qW ?_)))
 refine z9 rfl rfl (z7 (z4 (z6 (z6 (z8 (zj rfl fo165_1 rfl ?_))))))
 refine zh rfl sc3 rfl qC ?_
 refine yx rfl rfl rfl (z7 (z4 (zo rfl (fun h14 => ?_) (fun h14 => ?_))))
 ·try simp only [dq] at h14
  refine z6 (z8 (zp rfl yn rfl qN ?_))
  refine zE yn rfl rfl qL qO qU qW ?_
  exact z9 rfl rfl (z7 (z4 (zi (zD (yN rfl yn rfl qN rfl ⟨by rw [int_1 h14]; rfl, rfl, rfl⟩ qD qF)))))
 ·try simp only [dq] at h14
  refine zm (z4 (z6 (z6 (z8 (z5 rfl rfl (z5 rfl rfl (L.maxI rfl rfl rfl ?_)))))))
  rw [show max (top : Int) 0 = (top : Int) by omega]
  refine L.convU rfl xf xA rfl qI ?_
  refine yB rfl rfl rfl (z7 (z4 (zo rfl (fun h20 => ?_) (fun h20 => ?_))))
  ·try simp only [dq] at h20
   refine z6 (z8 (yw rfl bu165 (zB rfl rfl rfl <| zB rfl rfl rfl <| zO (out := []) rfl) ?_))
   refine zE yn rfl rfl qL qO qU qW ?_
   exact z9 rfl rfl (z7 (z4 (zi (zD (yN rfl yn rfl qN rfl ⟨by rw [int_2 (Decidable.not_not.1 h14) jO]; rfl, rfl, rfl⟩ qD qF)))))
  ·try simp only [dq] at h20
   refine zm (z4 (z6 (z8 (zp rfl yn rfl qN ?_))))
   refine z5 rfl rfl (L.convN rfl xA xf rfl qI ?_)
   refine zE yn rfl rfl qL qO qU qW ?_
   exact z9 rfl rfl (z7 (z4 (zi (yN rfl yn rfl qN rfl ⟨by rw [int_3 (Decidable.not_not.1 h14) jO], rfl, rfl⟩ qD qF))))
theorem rclose_spec {b : Bl}  : Spec Tryz.prog 92 [.agg (blR b).toArray] [] [] (fun v D' M' => v = .int .i64 (closeE b) ∧ D' = [] ∧ M' = []) := by
 refine zC (n := 13) Tryz.func92 ?_
 intro σ D M
 refine z6 (z8 (yq rfl rfl rfl (fun b1 => ?_)))
 refine z9 rfl rfl (z7 (z4 (z6 (z6 (yu (fun K' D' M' => ∃ (w : Bool), (w = true ↔ (b.err = 0 ∧ b.left ≠ [])) ∧ K' = [(10, .bool w)] ∧ D' = [] ∧ M' = []) (M0 := []) (.c 1 rfl <| za _) qS ?_ ?_)))))
 ·skip
  by_cases hne : b.err = 0
  ·skip
   refine z8 (zj rfl fo165_1 rfl ?_)
   refine zh rfl sc3 rfl qC ?_
   refine yj rfl rfl rfl (z5 rfl rfl (zv (t := 6) rfl (show _ = Value.bool true from congrArg Value.bool (decide_eq_true hne)) ?_))
   refine zf (dj := 6) rfl rfl rfl (zj rfl fo165_0 rfl ?_)
   refine zf (dj := 6) rfl rfl rfl (zh rfl sc9 rfl qC ?_)
   refine zf (dj := 6) rfl rfl rfl (L.neS rfl rfl rfl ?_)
   exact ye rfl rfl rfl (z7 (z4 (zK ⟨_, (by simp_all), rfl, rfl, rfl⟩ (.c 10 rfl <| za _) (.c 1 rfl <| za _) qD qD qF)))
  ·skip
   refine z8 (zj rfl fo165_1 rfl ?_)
   refine zh rfl sc3 rfl qC ?_
   refine yj rfl rfl rfl (z5 rfl rfl (zv (t := 6) rfl (show _ = Value.bool false from congrArg Value.bool (decide_eq_false hne)) ?_))
   exact zg (dj := 6) (c := false) rfl rfl rfl rfl rfl jD (zg (dj := 6) (c := false) rfl rfl rfl rfl rfl jD (zg (dj := 6) (c := false) rfl rfl rfl rfl rfl jD (y5 rfl rfl rfl (z7 (z4 (zK ⟨_, (by simp_all), rfl, rfl, rfl⟩ (.c 10 rfl <| za _) (.c 1 rfl <| za _) qD qD qF))))))
 rintro _ _ _ ⟨w, hw, rfl, rfl, rfl⟩
 refine zF qA qA qA ?_
 refine z4 (zo rfl (fun h10 => ?_) (fun h10 => ?_))
 ·try simp only [dq] at h10
  exact z6 (z8 (z9 rfl rfl (z7 (z4 (zi (zD (zz rfl rfl ⟨congrArg (Value.int .i64) (by unfold closeE; rw [if_pos (hw.1 h10)]), rfl, rfl⟩ qD qF)))))))
 ·try simp only [dq] at h10
  refine zm (z4 (z6 (z8 (zj rfl fo165_1 rfl ?_))))
  refine zh rfl sc3 rfl qC ?_
  exact z9 rfl rfl (z7 (z4 (zi (zz rfl rfl ⟨congrArg (Value.int .i64) (by unfold closeE; rw [if_neg (fun e => by rw [hw.2 e] at h10; cases h10)]), rfl, rfl⟩ qD qF))))
end Cv
