/-
  The walks: items read.
-/
import Derived.Test.YtncgoodlhmpfcaaGreatD06
set_option linter.all false
set_option maxRecDepth 10000
namespace Cv
open Go Go.Proofs

def ItemS (f : Nat) : Prop := ∀ (d rb bb : Nat) (l : Int) (b : Bl), 1 ≤ f → d + f = 10 → 0 ≤ l → l ≤ 1000000 → Spec Tryz.prog 211 [.pointer (some ⟨rb, 0, none⟩), .int .i64 (d : Int)] [] [cl rb 305 [.pointer (some ⟨bb, 0, none⟩), .int .i64 (l)], cl bb 292 (blR (b))] (fun v D' M' => ∃ (a' : Option Addr) (len' cap' : Nat), v = .agg (iRow (itemF f d l b).1 a' len' cap').toArray ∧ D' = [rtr (itemF f d l b).1 (eRow (itemF f d l b).1 a' len' cap')] ∧ M' = [cl rb 305 [.pointer (some ⟨bb, 0, none⟩), .int .i64 ((itemF f d l b).2.1)], cl bb 292 (blR ((itemF f d l b).2.2))])
set_option maxHeartbeats 1600000 in
theorem ritem_step {f : Nat} (ih : ItemS f) {d rb bb : Nat} {l : Int} {b : Bl} (hdf : d + (f + 1) = 10) (hl0 : 0 ≤ l) (hl6 : l ≤ 1000000) : Spec Tryz.prog 211 [.pointer (some ⟨rb, 0, none⟩), .int .i64 (d : Int)] [] [cl rb 305 [.pointer (some ⟨bb, 0, none⟩), .int .i64 (l)], cl bb 292 (blR (b))] (fun v D' M' => ∃ (a' : Option Addr) (len' cap' : Nat), v = .agg (iRow (itemF (f + 1) d l b).1 a' len' cap').toArray ∧ D' = [rtr (itemF (f + 1) d l b).1 (eRow (itemF (f + 1) d l b).1 a' len' cap')] ∧ M' = [cl rb 305 [.pointer (some ⟨bb, 0, none⟩), .int .i64 ((itemF (f + 1) d l b).2.1)], cl bb 292 (blR ((itemF (f + 1) d l b).2.2))]) := by
 refine zv (n := 95) Tryz.func211 ?_
 intro σ D M
 obtain ⟨kk, hkk⟩ : ∃ kk, kk = (intR b 4).1 := ⟨_, rfl⟩
 obtain ⟨z1, hz1⟩ : ∃ z1, z1 = (intR b 4).2 := ⟨_, rfl⟩
 have hkl := int_le b 4
 rw [← hkk] at hkl
 refine O (zC R ze44 (fun b4 => ?_))
 refine I (O (E R R (zJ R R ?_)))
 refine zg R fo305_0 R ?_
 refine zf R sc244 R qC ?_
 refine zp R (ev2 R R) qD qS (bint_spec (b := b) (top := 4) jD) ?_
 rintro _ _ _ ⟨rfl, rfl, rfl⟩
 refine zm qA qA ?_
 rw [← hkk, ← hz1]
 refine yq R bu44 (zF R R R <| zQ (out := [S [], Value.slice none 0 0]) R) ?_
 refine zC R ze44 (fun b5 => ?_)
 refine zz yC R R qL qO qU qW ?_
 refine I (ze (O (E R R (zJ R R ?_))))
 refine zg R fo305_1 R ?_
 refine zf R sc3 R qC ?_
 refine yt R R R jO ?_
 refine zJ R R ?_
 refine zg R fo305_1 R ?_
 refine yj sc3 R R R qU qE ?_
 refine I (ze (yx (fun K' D' M' => ∃ (w1 : Bool), (w1 = true ↔ (l - 1 < 0 ∨ 8 < d)) ∧ K' = [(29, .bool w1)] ∧ D' = [] ∧ M' = []) (M0 := []) (.c 0 R <| .c 1 R <| .c 4 R <| .c 5 R <| zd _) qS ?_ ?_))
 ·by_cases hll : l - 1 < 0
  ·refine zt (E R R (zJ R R ?_))
   refine zg R fo305_1 R ?_
   refine zf R sc3 R qC ?_
   refine zW R R R (E R R (zE (t := 26) R (show _ = Value.bool true from congrArg Value.bool (decide_eq_true hll)) ?_))
   exact zw 26 true R R R R R jD (zw 26 true R R R R R jD (ym R R R (I (zK ⟨_, (by simp_all <;> omega), R, R, R⟩ (.c 29 R <| zd _) (.c 0 R <| .c 1 R <| .c 4 R <| .c 5 R <| zd _) qD qD qF))))
  refine zt (E R R (zJ R R ?_))
  refine zg R fo305_1 R ?_
  refine zf R sc3 R qC ?_
  refine zW R R R (E R R (zE (t := 26) R (show _ = Value.bool false from congrArg Value.bool (decide_eq_false hll)) ?_))
  exact zj 26 R R R (E R R (zj 26 R R R (yy R R R (yg R R R (I (zK ⟨_, (by simp_all <;> omega), R, R, R⟩ (.c 29 R <| zd _) (.c 0 R <| .c 1 R <| .c 4 R <| .c 5 R <| zd _) qD qD qF))))))
 rintro _ _ _ ⟨w1, hw1, rfl, rfl, rfl⟩
 refine zM qA qA qA ?_
 refine z8 (yx (fun K' D' M' => ∃ (z2 : Bl), (z2 = if l - 1 < 0 ∨ 8 < d then failB z1 5 else z1) ∧ K' = [] ∧ D' = [] ∧ M' = [cl bb 292 (blR (z2))]) (M0 := [cl bb 292 (blR (z1))]) (.c 0 R <| .c 1 R <| .c 4 R <| .c 5 R <| zd _) qS ?_ ?_)
 ·refine zA R (fun h29 => ?_) (fun h29 => ?_)
  ·try simp only [dq] at h29
   refine zt (E R R (zJ R R ?_))
   refine zg R fo305_0 R ?_
   refine zf R sc244 R qC ?_
   refine zp R (ev2 R R) qD qS (bfail_spec (b := z1) (e := 5)) ?_
   rintro _ _ _ ⟨rfl, rfl, rfl⟩
   refine zm qA qA ?_
   exact I (zK ⟨_, (by rw [if_pos (hw1.1 h29)]), R, R, R⟩ (zd _) (.c 0 R <| .c 1 R <| .c 4 R <| .c 5 R <| zd _) qD qD qF)
  try simp only [dq] at h29
  exact zq (z8 (zK ⟨_, (by rw [if_neg (fun e => by rw [hw1.2 e] at h29; cases h29)]), R, R, R⟩ (zd _) (.c 0 R <| .c 1 R <| .c 4 R <| .c 5 R <| zd _) qD qD qF))
 rintro _ _ _ ⟨z2, hz2, rfl, rfl, rfl⟩
 refine zM qA qA qA ?_
 refine z8 (ze (ze (yx (fun K' D' M' => ∃ (w2 : Bool), (w2 = true ↔ (z2.err = 0 ∧ kk < 1)) ∧ K' = [(45, .bool w2)] ∧ D' = [] ∧ M' = []) (M0 := []) (.c 0 R <| .c 1 R <| .c 4 R <| .c 5 R <| zd _) qS ?_ ?_)))
 ·by_cases hbe : z2.err = 0
  ·refine zt (E R R (zJ R R ?_))
   refine zg R fo305_0 R ?_
   refine zf R sc244 R qC ?_
   refine zH R (ev1 R) qD qS (berr_spec (b := z2)) jF ?_
   refine yi R R R (E R R (zE (t := 41) R (show _ = Value.bool true from congrArg Value.bool (decide_eq_true hbe)) ?_))
   refine zj 41 R R R (zg R fo44_0 R ?_)
   refine zj 41 R R R (zf R sc3 R qC ?_)
   exact zj 41 R R R (zW R R R (ym R R R (I (zK ⟨_, (by simp_all <;> omega), R, R, R⟩ (.c 45 R <| zd _) (.c 0 R <| .c 1 R <| .c 4 R <| .c 5 R <| zd _) qD qD qF))))
  refine zt (E R R (zJ R R ?_))
  refine zg R fo305_0 R ?_
  refine zf R sc244 R qC ?_
  refine zH R (ev1 R) qD qS (berr_spec (b := z2)) jF ?_
  refine yi R R R (E R R (zE (t := 41) R (show _ = Value.bool false from congrArg Value.bool (decide_eq_false hbe)) ?_))
  exact zw 41 false R R R R R jD (zw 41 false R R R R R jD (zw 41 false R R R R R jD (yg R R R (I (zK ⟨_, (by simp_all <;> omega), R, R, R⟩ (.c 45 R <| zd _) (.c 0 R <| .c 1 R <| .c 4 R <| .c 5 R <| zd _) qD qD qF)))))
 rintro _ _ _ ⟨w2, hw2, rfl, rfl, rfl⟩
 refine zM qA qA qA ?_
 refine z8 (yx (fun K' D' M' => ∃ (z3 : Bl), (z3 = if z2.err = 0 ∧ kk < 1 then failB z2 2 else z2) ∧ K' = [] ∧ D' = [] ∧ M' = [cl bb 292 (blR (z3))]) (M0 := [cl bb 292 (blR (z2))]) (.c 0 R <| .c 1 R <| .c 4 R <| .c 5 R <| zd _) qS ?_ ?_)
 ·refine zA R (fun h45 => ?_) (fun h45 => ?_)
  ·try simp only [dq] at h45
   refine zt (E R R (zJ R R ?_))
   refine zg R fo305_0 R ?_
   refine zf R sc244 R qC ?_
   refine zp R (ev2 R R) qD qS (bfail_spec (b := z2) (e := 2)) ?_
   rintro _ _ _ ⟨rfl, rfl, rfl⟩
   refine zm qA qA ?_
   exact I (zK ⟨_, (by rw [if_pos (hw2.1 h45)]), R, R, R⟩ (zd _) (.c 0 R <| .c 1 R <| .c 4 R <| .c 5 R <| zd _) qD qD qF)
  try simp only [dq] at h45
  exact zq (z8 (zK ⟨_, (by rw [if_neg (fun e => by rw [hw2.2 e] at h45; cases h45)]), R, R, R⟩ (zd _) (.c 0 R <| .c 1 R <| .c 4 R <| .c 5 R <| zd _) qD qD qF))
 rintro _ _ _ ⟨z3, hz3, rfl, rfl, rfl⟩
 refine zM qA qA qA ?_
 have hkc : kindC d l b = z3 := by unfold kindC kindB; rw [← hkk, ← hz1, ← hz2, ← hz3]
 refine z8 (ze (O (zg R fo44_0 R ?_)))
 refine zf R sc3 R qC ?_
 refine zZ R R R (I (zA R (fun h53 => ?_) (fun h53 => ?_)))
 ·try simp only [dq] at h53
  have hif := item_file (f := f) (d := d) (l := l) (b := b) (by rw [← hkk]; omega)
  rw [hkc, ← hkk] at hif
  refine O (E R R (zJ R R ?_))
  refine zg R fo305_0 R ?_
  refine zf R sc244 R qC ?_
  refine zp R (ev2 R R) qD qS (bstrr_spec (b := z3) (top := 8192) jD) ?_
  rintro _ _ _ ⟨rfl, rfl, rfl⟩
  refine zm qA qA ?_
  refine zg R fo44_1 R ?_
  refine yj sc9 R R R qU qE ?_
  refine I (O (zx R yC R qN ?_))
  refine zz yC R R qL qO qU qW ?_
  refine I (zo (zL ?_))
  have e1 : (itemF (f + 1) d l b).1 = .mk [] kk (strR z3 8192).1 [] := by rw [hif]
  have e2 : (itemF (f + 1) d l b).2.1 = l - 1 := by rw [hif]
  have e3 : (itemF (f + 1) d l b).2.2 = (strR z3 8192).2 := by rw [hif]
  rw [e1, e2, e3]
  refine T.fact0 (φ := rtr (.mk [] kk (strR z3 8192).1 []) (eRow (.mk [] kk (strR z3 8192).1 []) none 0 0)) (fun z => rt_leaf) ?_
  exact xt R yC R qN ⟨none, 0, 0, R, R, R⟩ qD qF
 try simp only [dq] at h53
 have hid := item_dir (f := f) (d := d) (l := l) (b := b) (by rw [← hkk]; omega)
 rw [hkc] at hid
 have hkp := kind_pos (d := d) (l := l) (b := b)
 rw [hkc] at hkp
 refine zq (z8 (ze (O (E R R (zJ R R ?_)))))
 refine zg R fo305_0 R ?_
 refine zf R sc244 R qC ?_
 refine zp R (ev2 R R) qD qS (bint_spec (b := z3) (top := 64) jD) ?_
 rintro _ _ _ ⟨rfl, rfl, rfl⟩
 refine zm qA qA ?_
 have hnl := int_le z3 64
 obtain ⟨n0, hn0⟩ : ∃ n0, n0 = (intR z3 64).1 := ⟨_, rfl⟩
 obtain ⟨z4, hz4⟩ : ∃ z4, z4 = (intR z3 64).2 := ⟨_, rfl⟩
 rw [← hn0, ← hz4]
 rw [← hn0] at hnl
 refine V R R (zu (yM (sz := 4) (e := 99) ?_))
 refine T.fact0 (φ := etsA []) (fun z q hq => by cases hq) ?_
 refine T.clEq b5 [.int .i64 4, S [], .slice none 0 0] qP (by rw [show kk = 4 by omega]; rfl) ?_
 refine z8 (zD (y8 (fun K' D' M' μ => ∃ (m n5 : Nat) (l5 : Int) (z5 : Bl) (acc : List ET) (a5 : Option Addr) (c5 : Nat), (acc.length = n5 ∧ LI (itemF f (d + 1)) n0 (l - 1) z4 m l5 z5 acc) ∧ K' = [(6, .int .i64 (m : Int))] ∧ D' = [etsA acc] ∧ M' = [cl rb 305 [.pointer (some ⟨bb, 0, none⟩), .int .i64 (l5)], cl bb 292 (blR (z5)), cl b5 44 [.int .i64 4, S [], .slice a5 n5 c5], own 4 99 a5 n5 c5 (acc.map eT)] ∧ μ = 2 * m) (.c 0 R <| .c 1 R <| .c 4 R <| .c 5 R <| zd _) (⟨n0, 0, l - 1, z4, [], none, 0, ⟨R, LI.zero ⟨by omega, fun e => by have hq := kind_low (d := d) (l := l) (b := b) jO; rw [hkc] at hq; rw [hz4, int_bad hq]; exact hq, by omega⟩⟩, R, R, R, R⟩) (.c 6 R <| zd _) qD qS ?_))
 rintro K1 D1 M1 m1 ⟨m, n5, l5, z5, acc, a5, c5, ⟨hal, hLI⟩, rfl, rfl, rfl, rfl⟩
 refine zM qA qA qA ?_
 refine ze (ze (yx (fun K' D' M' => ∃ (w3 : Bool), (w3 = true ↔ (0 < m ∧ z5.err = 0)) ∧ K' = [(75, .bool w3)] ∧ D' = [] ∧ M' = []) (M0 := []) (.c 0 R <| .c 1 R <| .c 4 R <| .c 5 R <| .c 6 R <| zd _) qS ?_ ?_))
 ·rcases Nat.eq_zero_or_pos m with hm0 | hm0
  ·refine zt (E R R (yy R R R (E R R (zE (t := 68) R (show _ = Value.bool false from congrArg Value.bool (decide_eq_false jO)) ?_))))
   exact zw 68 false R R R R R jD (zw 68 false R R R R R jD (zw 68 false R R R R R jD (zw 68 false R R R R R jD (zw 68 false R R R R R jD (zw 68 false R R R R R jD (yg R R R (I (zK ⟨_, (by simp_all <;> omega), R, R, R⟩ (.c 75 R <| zd _) (.c 0 R <| .c 1 R <| .c 4 R <| .c 5 R <| .c 6 R <| zd _) qD qD qF))))))))
  refine zt (E R R (yy R R R (E R R (zE (t := 68) R (show _ = Value.bool true from congrArg Value.bool (decide_eq_true jO)) ?_))))
  refine zj 68 R R R (E R R (zj 68 R R R (zJ R R ?_)))
  refine zj 68 R R R (zg R fo305_0 R ?_)
  refine zj 68 R R R (zf R sc244 R qC ?_)
  refine zj 68 R R R (zH R (ev1 R) qD qS (berr_spec (b := z5)) jF ?_)
  exact zj 68 R R R (yi R R R (ym R R R (I (zK ⟨_, (by simp_all <;> omega), R, R, R⟩ (.c 75 R <| zd _) (.c 0 R <| .c 1 R <| .c 4 R <| .c 5 R <| .c 6 R <| zd _) qD qD qF))))
 rintro _ _ _ ⟨w3, hw3, rfl, rfl, rfl⟩
 refine zM qA qA qA ?_
 refine z8 (zA R (fun h75 => ?_) (fun h75 => ?_))
 ·try simp only [dq] at h75
  have hwt := hw3.1 h75
  have hks := kind_stick (d := d) (l := l) (b := b) (by rw [hkc]; exact hkp (by have := hLI.len; omega))
  have hmn := hLI.len
  refine zq (z8 (ze (zD (O (E R R (zJ R R ?_))))))
  refine zg R fo305_0 R ?_
  refine zf R sc244 R qC ?_
  refine zp R (ev2 R R) qD qS (bstrr_spec (b := z5) (top := 24) jD) ?_
  rintro _ _ _ ⟨rfl, rfl, rfl⟩
  refine zm qA qA ?_
  obtain ⟨nm, hnm⟩ : ∃ q, q = (strR z5 24).1 := ⟨_, rfl⟩
  obtain ⟨z6, hz6⟩ : ∃ q, q = (strR z5 24).2 := ⟨_, rfl⟩
  rw [← hnm, ← hz6]
  refine V R R (zu ?_)
  have hir := item_ok f (d + 1) l5 z6 jO jO
  refine z8 (y7 (clsL [1, 2, 1, 1, 1, 1, 2, 1, 2, 2, 1, 2]) qk ?_)
  refine z9 0 R R (zg R fo44_2 R ?_)
  refine z7 (z9 2 R R (E R R (z7 (z9 3 R R (E R R (z7 (z9 4 R R (E R R (z7 (z9 5 R R (zT R R R jO ?_)))))))))))
  refine z7 (yA (is := [1, 6]) qk jD (zU R ?_ <| zU R ?_ <| yB) )
  ·refine zf R sc42 R qC ?_
   refine zh R qD ?_
   refine zi 6 R (zp R (ev2 R R) qD qS (ih (d + 1) rb bb l5 z6 jO jO (by have := hLI.low; by_cases e : l5 = -1; exact absurd hwt.2 (this.2.1 e); omega) (by have := hLI.low; omega)) ?_)
   rintro _ _ _ ⟨fa, fl, fc, rfl, rfl, rfl⟩
   refine zm qA qA ?_
   refine zh R qD ?_
   refine z9 7 R R (yq R bu99 (zF R R R <| yG R R j1 (Nat.le_of_ble_eq_true R) qR <| zQ (out := []) R) ?_)
   refine z7 (zi 8 R (yl R bs42 jD (yG R R j1 (Nat.le_of_ble_eq_true R) qR <| zQ (out := []) R) (fun b91 => ?_)))
   refine zh R qD ?_
   refine zi 9 R (x6 R yK el99 R R qP qM R qO1 qI qI (fun a92 c92 => ?_))
   refine zh R qD ?_
   refine z9 10 R R (zg R fo44_2 R ?_)
   refine z7 (zi 11 R (yj sc42 R R R qU qE ?_))
   refine zh R qD ?_
   refine zN qk ?_
   refine zS (z8 (zt (E R R (yt R R R jO ?_))))
   rw [show (m : Int) - 1 = ((m - 1 : Nat) : Int) by omega]
   refine V R R (I (yp _ ((acc ++ [((itemF f (d + 1) l5 z6).1.named nm, fa, fl, fc)]).map eT) qP (by rw [List.map_append]; rfl) ?_))
   refine T.trName (x := (itemF f (d + 1) l5 z6).1) (y := (itemF f (d + 1) l5 z6).1.named nm) qM R ?_
   refine T.etsSnoc (xs := acc) (Y := (itemF f (d + 1) l5 z6).1) (m := nm) qM qM ?_
   exact zV ⟨m - 1, n5 + 1, (itemF f (d + 1) l5 z6).2.1, (itemF f (d + 1) l5 z6).2.2, acc ++ [((itemF f (d + 1) l5 z6).1.named nm, fa, fl, fc)], _, _, ⟨by simp [hal], by rw [hz6, hnm]; exact hLI.step hwt.1 hwt.2 (by rw [← hz6]; exact hir)⟩, R, R, R, R⟩ qI (.c 6 R <| zd _) (.c 0 R <| .c 1 R <| .c 4 R <| .c 5 R <| zd _) qD qD qF
  refine zp R (ev2 R R) qD qS (ih (d + 1) rb bb l5 z6 jO jO (by have := hLI.low; by_cases e : l5 = -1; exact absurd hwt.2 (this.2.1 e); omega) (by have := hLI.low; omega)) ?_
  rintro _ _ _ ⟨fa, fl, fc, rfl, rfl, rfl⟩
  refine zm qA qA ?_
  refine zh R qD ?_
  refine z9 7 R R (yq R bu99 (zF R R R <| yG R R j1 (Nat.le_of_ble_eq_true R) qR <| zQ (out := []) R) ?_)
  refine z7 (yA (is := [1, 8]) qk jD (zU R ?_ <| zU R ?_ <| yB) )
  ·refine zf R sc42 R qC ?_
   refine zh R qD ?_
   refine zi 8 R (yl R bs42 jD (yG R R j1 (Nat.le_of_ble_eq_true R) qR <| zQ (out := []) R) (fun b91 => ?_))
   refine zh R qD ?_
   refine zi 9 R (x6 R yK el99 R R qP qM R qO1 qI qI (fun a92 c92 => ?_))
   refine zh R qD ?_
   refine z9 10 R R (zg R fo44_2 R ?_)
   refine z7 (zi 11 R (yj sc42 R R R qU qE ?_))
   refine zh R qD ?_
   refine zN qk ?_
   refine zS (z8 (zt (E R R (yt R R R jO ?_))))
   rw [show (m : Int) - 1 = ((m - 1 : Nat) : Int) by omega]
   refine V R R (I (yp _ ((acc ++ [((itemF f (d + 1) l5 z6).1.named nm, fa, fl, fc)]).map eT) qP (by rw [List.map_append]; rfl) ?_))
   refine T.trName (x := (itemF f (d + 1) l5 z6).1) (y := (itemF f (d + 1) l5 z6).1.named nm) qM R ?_
   refine T.etsSnoc (xs := acc) (Y := (itemF f (d + 1) l5 z6).1) (m := nm) qM qM ?_
   exact zV ⟨m - 1, n5 + 1, (itemF f (d + 1) l5 z6).2.1, (itemF f (d + 1) l5 z6).2.2, acc ++ [((itemF f (d + 1) l5 z6).1.named nm, fa, fl, fc)], _, _, ⟨by simp [hal], by rw [hz6, hnm]; exact hLI.step hwt.1 hwt.2 (by rw [← hz6]; exact hir)⟩, R, R, R, R⟩ qI (.c 6 R <| zd _) (.c 0 R <| .c 1 R <| .c 4 R <| .c 5 R <| zd _) qD qD qF
  refine yl R bs42 jD (yG R R j1 (Nat.le_of_ble_eq_true R) qR <| zQ (out := []) R) (fun b91 => ?_)
  refine zh R qD ?_
  refine zi 1 R (zf R sc42 R qC ?_)
  refine zh R qD ?_
  refine zi 9 R (x6 R yK el99 R R qP qM R qO1 qI qI (fun a92 c92 => ?_))
  refine zh R qD ?_
  refine z9 10 R R (zg R fo44_2 R ?_)
  refine z7 (zi 11 R (yj sc42 R R R qU qE ?_))
  refine zh R qD ?_
  refine zN qk ?_
  refine zS (z8 (zt (E R R (yt R R R jO ?_))))
  rw [show (m : Int) - 1 = ((m - 1 : Nat) : Int) by omega]
  refine V R R (I (yp _ ((acc ++ [((itemF f (d + 1) l5 z6).1.named nm, fa, fl, fc)]).map eT) qP (by rw [List.map_append]; rfl) ?_))
  refine T.trName (x := (itemF f (d + 1) l5 z6).1) (y := (itemF f (d + 1) l5 z6).1.named nm) qM R ?_
  refine T.etsSnoc (xs := acc) (Y := (itemF f (d + 1) l5 z6).1) (m := nm) qM qM ?_
  exact zV ⟨m - 1, n5 + 1, (itemF f (d + 1) l5 z6).2.1, (itemF f (d + 1) l5 z6).2.2, acc ++ [((itemF f (d + 1) l5 z6).1.named nm, fa, fl, fc)], _, _, ⟨by simp [hal], by rw [hz6, hnm]; exact hLI.step hwt.1 hwt.2 (by rw [← hz6]; exact hir)⟩, R, R, R, R⟩ qI (.c 6 R <| zd _) (.c 0 R <| .c 1 R <| .c 4 R <| .c 5 R <| zd _) qD qD qF
 try simp only [dq] at h75
 have hst := hLI.stop (fun e => by rw [hw3.2 e] at h75; cases h75)
 refine y4 (zG (zG (y5 (z8 (O (zx R yC R qN ?_))))))
 refine zz yC R R qL qO qU qW ?_
 refine I (zo ?_)
 have e1 : (itemF (f + 1) d l b).1 = ofT acc := by rw [hid]; show Tr.mk [] 4 [] (loopF _ (intR z3 64).1 (l - 1) (intR z3 64).2).1 = _; rw [← hn0, ← hz4, hst]; rfl
 have e2 : (itemF (f + 1) d l b).2.1 = l5 := by rw [hid]; show (loopF _ (intR z3 64).1 (l - 1) (intR z3 64).2).2.1 = _; rw [← hn0, ← hz4, hst]
 have e3 : (itemF (f + 1) d l b).2.2 = z5 := by rw [hid]; show (loopF _ (intR z3 64).1 (l - 1) (intR z3 64).2).2.2 = _; rw [← hn0, ← hz4, hst]
 rw [e1, e2, e3]
 refine yQ (rows := acc.map eT) qP ?_
 refine T.derive (φ := etsA acc) qM etsA_kids ?_
 refine T.trMkE (x := ofT acc) (ks := acc.map (·.1)) R qM qM ?_
 exact xt R yC R qN ⟨a5, n5, c5, R, R, R⟩ qD qF
theorem item_spec : ∀ f, ItemS f := by
 intro f
 induction f with
 | zero => intro d rb bb l b h; omega
 | succ f ih => intro d rb bb l b h1 h2 h3 h4; exact ritem_step ih h2 h3 h4
end Cv
