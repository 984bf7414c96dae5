/-
  The walks: Of, awake.
-/
import Derived.Test.YtncgoodlhmpfcaaGreatG05
import Derived.Test.YtncgoodlhmpfcaaGreatL05
set_option linter.all false
set_option maxHeartbeats 400000
set_option maxRecDepth 10000
namespace Cv
open Go Go.Proofs

theorem Chk_spec {x : Tr} (a : Option Addr) (len cap : Nat) (hc : x.count ≤ 900000) (hs : TAll Sm x) (htl : x.t.length ≤ 20000) : Spec Tryz.prog 113 [.agg (iRow x a len cap).toArray] [rtr x (eRow x a len cap)] [] (fun v D' M' => v = .int .i64 (chkE x) ∧ D' = [] ∧ M' = []) := by
 refine zv (n := 17) Tryz.func113 ?_
 intro σ D M
 refine O (y6 R R R (fun b1 => ?_))
 refine V R R (I (O (zx R yC R qN ?_)))
 refine zH R (ev2 R R) qD qS (chk_spec x a len cap 1 jD jO hs htl) jF ?_
 refine E R R (zr R R R (zr R R R (V R R (V R R (I (ze (O (E R R (yi R R R (E R R (yT (t := 12) R (fun h1 => ?_) (fun h1 => ?_))))))))))))
 ·try simp only [dq] at h1
  refine zj 12 R R R (E R R (zj 12 R R R (yy R R R (ym R R R (I (zA R (fun h15 => ?_) (fun h15 => ?_)))))))
  ·try simp only [dq] at h15
   exact O (V R R (I (zo (zL (zy R R ⟨congrArg (Value.int .i64) (by unfold chkE; simp_all <;> omega), R, R⟩ qD qF)))))
  try simp only [dq] at h15
  exact zq (z8 (O (E R R (V R R (I (zo (zy R R ⟨congrArg (Value.int .i64) (by unfold chkE; simp_all <;> omega), R, R⟩ qD qF)))))))
 try simp only [dq] at h1
 refine zw 12 false R R R R R jD (zw 12 false R R R R R jD (yg R R R (I (zR R R ?_))))
 exact zq (z8 (O (E R R (V R R (I (zo (zy R R ⟨congrArg (Value.int .i64) (by unfold chkE; simp_all <;> omega), R, R⟩ qD qF)))))))
theorem of1_spec {x y : ET}  : Spec Tryz.prog 83 [.agg (eT x).toArray, .agg (eT y).toArray] [] [] (fun v D' M' => v = .int .i64 (cfN x y) ∧ D' = [] ∧ M' = []) := by
 refine zv (n := 10) Tryz.func83 ?_
 intro σ D M
 refine O (y6 R R R (fun b2 => ?_))
 refine y6 R R R (fun b3 => ?_)
 refine V R R (I (O (zg R fo99_0 R ?_)))
 refine zf R sc9 R qC ?_
 refine zg R fo99_0 R ?_
 refine zf R sc9 R qC ?_
 refine zH R (ev2 R R) qD qS (scmp_spec (p := x.1.n) (q := y.1.n)) jF ?_
 exact V R R (I (zo (zy R R ⟨R, R, R⟩ qD qF)))
theorem of_spec {a : Option Addr} {len cap : Nat} {xs : List ET} (hb : len ≤ 1000000) : Spec Tryz.prog 39 [.slice a len cap] [rsl 4 a len cap (xs.map eT), etsA xs] [] (fun v D' M' => ∃ (a' : Option Addr) (cap' : Nat) (ys : List ET), v = .agg #[.int .i64 4, S [], .slice a' len cap'] ∧ (Kp cfN xs ys) ∧ ((len < 20 → ∀ tag : ET → Nat, (∀ p q, p < q → q < xs.length → tag (gd xs p) < tag (gd xs q)) → Pw (Rt cfN tag) ys len)) ∧ (ys.length = len) ∧ D' = [rtr (ofT ys) (eRow (ofT ys) a' len cap'), rsl 4 a' len cap' (ys.map eT), etsA ys] ∧ M' = []) := by
 refine zv (n := 9) Tryz.func39 ?_
 intro σ D M
 refine O (zC R ze44 (fun b2 => ?_))
 refine I (O (E R R (zp R (ev1 R) qD qS (eclone_spec hb) ?_)))
 rintro _ _ _ ⟨ca, cc, rfl, rfl, rfl⟩
 refine zm qA qA ?_
 refine V R R (I (O (E R R (zp R (ev2 R R) qD qS (sstab_spec (g := 83) (caps := []) cfN_cmp (fun x y => of1_spec) hb) ?_))))
 rintro _ _ _ ⟨ys, rfl, hk, hs, rfl, rfl⟩
 refine zm qA qA ?_
 refine zu (yQ qP ?_)
 refine yU (rows := ys.map eT) qM (fun hyl _ => ?_)
 rw [List.length_map] at hyl
 refine T.derive (φ := etsA xs) (ψ := etsA ys) qM (etsA_sub hk.sm.2) ?_
 refine T.derive (φ := etsA ys) qM etsA_kids ?_
 refine T.trMkE (x := ofT ys) (ks := ys.map (·.1)) R qM qM ?_
 refine z8 (O (E R R (yq R bu44 (zF R R R <| BP.skip <| zF R R R <| zQ (out := []) R) ?_)))
 refine zz yC R R qL qO qU qW ?_
 exact I (zo (xt R yC R qN ⟨_, _, _, R, hk, hs, hyl, R, R⟩ qD qF))
end Cv
