/-
  The walks: Parse.
-/
import Derived.Test.YtncgoodlhmpfcaaGreatI06
import Derived.Test.YtncgoodlhmpfcaaGreatO05
set_option linter.all false
set_option maxHeartbeats 400000
set_option maxRecDepth 10000
namespace Cv
open Go Go.Proofs

theorem cutm_spec {s : List UInt8} : Spec Tryz.prog 210 [S s, S [99, 114, 118, 1]] [] [] (fun v D' M' => v = .tuple #[S (cpF s), .bool (decide (s.take 4 = mark))] ∧ D' = [] ∧ M' = []) := cutp_spec (s := s) (m := [99, 114, 118, 1])
theorem parse_spec {s : List UInt8} (hs : s.length ≤ 1000000000) : Spec Tryz.prog 171 [S s] [] [] (fun v D' M' => ∃ (a' : Option Addr) (len' cap' : Nat), v = .tuple #[.agg (iRow (parF s).1 a' len' cap').toArray, .int .i64 (parF s).2] ∧ D' = [rtr (parF s).1 (eRow (parF s).1 a' len' cap')] ∧ M' = []) := by
 refine zv (n := 44) Tryz.func171 ?_
 intro σ D M
 refine O (zC R ze44 (fun b2 => ?_))
 refine V R R (I (ze (O (E R R (yL R ye R (yy R R R (I (zA R (fun h12 => ?_) (fun h12 => ?_)))))))))
 ·try simp only [dq] at h12
  refine O (yq R bu44 (zQ (out := [Value.int .i64 0, S [], Value.slice none 0 0]) R) ?_)
  refine zz yC R R qL qO qU qW ?_
  refine V R R (I (zo (zL ?_)))
  have e0 : parF s = (.mk [] 0 [] [], 5) := by unfold parF; rw [if_pos jO]
  rw [e0]
  refine T.fact0 (φ := rtr (.mk [] 0 [] []) (eRow (.mk [] 0 [] []) none 0 0)) (fun z => rt_leaf) ?_
  exact yW R yC R qN R ⟨none, 0, 0, R, R, R⟩ qD qF
 try simp only [dq] at h12
 refine zq (z8 (O (E R R (zH R (ev2 R R) qD qS (cutm_spec (s := s)) jF ?_))))
 refine E R R (zr R R R (zr R R R (V R R (V R R (I (ze (O (E R R (x7 R R (I (zA R (fun h20 => ?_) (fun h20 => ?_))))))))))))
 ·try simp only [dq] at h20
  refine O (yq R bu44 (zQ (out := [Value.int .i64 0, S [], Value.slice none 0 0]) R) ?_)
  refine zz yC R R qL qO qU qW ?_
  refine V R R (I (zo (zL ?_)))
  have e0 : parF s = (.mk [] 0 [] [], 2) := by unfold parF; rw [if_neg jO, if_pos (by simpa using h20)]
  rw [e0]
  refine T.fact0 (φ := rtr (.mk [] 0 [] []) (eRow (.mk [] 0 [] []) none 0 0)) (fun z => rt_leaf) ?_
  exact yW R yC R qN R ⟨none, 0, 0, R, R, R⟩ qD qF
 try simp only [dq] at h20
 have hpr : s.take 4 = mark := by simpa using h20
 rw [cpF_yes hpr]
 refine zq (z8 (O (E R R (zp R (ev1 R) qD qS (bopen_spec (s := s.drop 4)) ?_))))
 rintro _ _ _ ⟨bb, rfl, rfl, rfl⟩
 refine zm qA qA ?_
 refine yq R bu305 (zF R R R <| zF R R R <| zQ (out := []) R) ?_
 refine y6 R R R (fun b25 => ?_)
 refine V R R (I (O (E R R (zp R (ev2 R R) qD qS (item_spec 9 1 b25 bb 64 ⟨s.drop 4, 0⟩ jD jD jD jD) ?_))))
 rintro _ _ _ ⟨fa, fl, fc, rfl, rfl, rfl⟩
 refine zm qA qA ?_
 refine zC R ze44 (fun b7 => ?_)
 refine zz yC R R qL qO qU qW ?_
 refine I (ze (O (E R R (zJ R R ?_))))
 refine zg R fo305_0 R ?_
 refine zf R sc244 R qC ?_
 refine zp R (ev1 R) qD qS (bclose_spec (b := (itemF 9 1 64 ⟨s.drop 4, 0⟩).2.2)) ?_
 rintro _ _ _ ⟨rfl, rfl, rfl⟩
 refine zm qA qA ?_
 refine V R R (I (O (E R R (zZ R R R (I (zA R (fun h34 => ?_) (fun h34 => ?_)))))))
 ·try simp only [dq] at h34
  refine O (yq R bu44 (zQ (out := [Value.int .i64 0, S [], Value.slice none 0 0]) R) ?_)
  refine E R R (zz yC R R qL qO qU qW ?_)
  refine V R R (I (zo (zL ?_)))
  have e0 : parF s = (.mk [] 0 [] [], closeE (itemF 9 1 64 ⟨s.drop 4, 0⟩).2.2) := by unfold parF; rw [if_neg jO, if_neg (fun e => e hpr), if_pos h34]
  rw [e0]
  refine T.fact0 (φ := rtr (.mk [] 0 [] []) (eRow (.mk [] 0 [] []) none 0 0)) (fun z => rt_leaf) ?_
  exact yW R yC R qN R ⟨none, 0, 0, R, R, R⟩ qD qF
 try simp only [dq] at h34
 have hcl : closeE (itemF 9 1 64 ⟨s.drop 4, 0⟩).2.2 = 0 := Decidable.not_not.1 h34
 have hio := item_ok 9 1 64 ⟨s.drop 4, 0⟩ jD jD
 have hcn := hio.cnt
 have hlw := (hio.low jD).1
 refine zq (z8 (ze (O (zx R yC R qN ?_))))
 refine zH R (ev1 R) qD qS (Chk_spec (x := (itemF 9 1 64 ⟨s.drop 4, 0⟩).1) _ _ _ jO hio.sm.1 hio.sm.2) jF ?_
 refine V R R (I (O (E R R (zZ R R R (I (zA R (fun h40 => ?_) (fun h40 => ?_)))))))
 ·try simp only [dq] at h40
  refine O (yq R bu44 (zQ (out := [Value.int .i64 0, S [], Value.slice none 0 0]) R) ?_)
  refine E R R (zz yC R R qL qO qU qW ?_)
  refine V R R (I (zo (zL ?_)))
  have e0 : parF s = (.mk [] 0 [] [], chkE (itemF 9 1 64 ⟨s.drop 4, 0⟩).1) := by unfold parF; rw [if_neg jO, if_neg (fun e => e hpr), if_neg h34, if_pos h40]
  rw [e0]
  refine T.fact0 (φ := rtr (.mk [] 0 [] []) (eRow (.mk [] 0 [] []) none 0 0)) (fun z => rt_leaf) ?_
  exact yW R yC R qN R ⟨none, 0, 0, R, R, R⟩ qD qF
 try simp only [dq] at h40
 refine zq (z8 (O (zx R yC R qN ?_)))
 refine zz yC R R qL qO qU qW ?_
 refine V R R (I (zo ?_))
 have e0 : parF s = ((itemF 9 1 64 ⟨s.drop 4, 0⟩).1, 0) := by unfold parF; rw [if_neg jO, if_neg (fun e => e hpr), if_neg h34, if_neg h40]
 rw [e0]
 exact yW R yC R qN R ⟨_, _, _, R, R, R⟩ qD qF
end Cv
