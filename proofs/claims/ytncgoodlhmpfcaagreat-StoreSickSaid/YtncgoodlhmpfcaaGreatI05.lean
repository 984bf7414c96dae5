/-
  The walks: package slices at entries.
-/
import Derived.Test.YtncgoodlhmpfcaaGreatD05
set_option linter.all false
set_option maxHeartbeats 400000
set_option maxRecDepth 10000
namespace Cv
open Go Go.Proofs

theorem eclone_spec {a : Option Addr} {len cap : Nat} {xs : List ET} (hb : len ≤ 1000000) : Spec Tryz.prog 81 [.slice a len cap] [rsl 4 a len cap (xs.map eT)] [] (fun v D' M' => ∃ (a' : Option Addr) (cap' : Nat), v = .slice a' len cap' ∧ D' = [] ∧ M' = [own 4 99 a' len cap' (xs.map eT)]) := by
 refine zv (n := 8) Tryz.func81 ?_
 intro σ D M
 refine yU qM (fun hl hc => ?_)
 rw [List.length_map] at hl
 refine O (V R R (I (ze (O (E R R (L.eqlSl R yK R R ?_))))))
 refine I (zA R (fun h4 => ?_) (fun h4 => ?_))
 ·try simp only [dq] at h4
  obtain rfl : a = none := by simpa using h4
  refine T.rslNil qM (fun h0 => ?_)
  obtain rfl : xs = [] := by simpa using h0
  obtain rfl : len = 0 := by simpa using hl.symm
  refine yM (sz := 4) (e := 99) ?_
  refine y3 qP (show own 4 99 none 0 0 [] = own 4 99 none 0 0 (([] : List ET).map eT) from R) ?_
  exact O (V R R (I (zo (zL (zy R R ⟨_, _, R, R, R⟩ qD qF)))))
 try simp only [dq] at h4
 refine zq (z8 (O (yl R bs42 jD (zQ (out := []) R) (fun b5 => ?_))))
 refine yR (len := 0) qP (rows := []) (sz := 4) (by rfl) R (by simp) ?_
 refine E R R (xC R yK yK el99 R R qP (rd_D qM) et_one qI qI (fun a7 c7 => ?_))
 refine V R R (zu ?_)
 simp only [Nat.zero_add, List.nil_append]
 exact z8 (zo (zy R R ⟨_, _, R, R, R⟩ qD qF))
end Cv
