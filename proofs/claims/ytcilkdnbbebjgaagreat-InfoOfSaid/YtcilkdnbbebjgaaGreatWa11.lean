/-
  The walks: infos compared.
-/
import Derived.Test.YtcilkdnbbebjgaaGreatSU11
import Derived.Test.YtcilkdnbbebjgaaGreatCvLg
import Derived.Test.YtcilkdnbbebjgaaGreatProg
import Derived.KernelRfl
set_option linter.unusedVariables false
set_option linter.unusedSimpArgs false
set_option linter.unusedSectionVars false
set_option maxRecDepth 10000
namespace Cv
open Go Go.Proofs
theorem eq_nextG {α : Type} [Inhabited α] {xs ys : List α} {i : Nat} (hx : i < xs.length) (hy : i < ys.length) (h : xs.take i = ys.take i) (e : gd xs i = gd ys i) : xs.take (i + 1) = ys.take (i + 1) := by
  have h1 : xs[i]? = some (gd xs i) := gd_get hx
  have h2 : ys[i]? = some (gd ys i) := gd_get hy
  rw [List.take_add_one, List.take_add_one, h, h1, h2, e]
@[reducible] def c3 (r : List UInt8) (z : Int) (a : Option Addr) (n c : Nat) : List Value := [S r, .int .i64 z, .slice a n c]
theorem ag41 : Ag Tryz.prog 41 2 := fun w => ⟨by kernel_rfl, by kernel_rfl⟩
set_option maxHeartbeats 400000 in
theorem same11_spec {a b : Option Addr} {n c m d : Nat} {xs us : List (List UInt8)} {r t : List UInt8} {z w : Int} (hn : n ≤ 1000000) (hm : m ≤ 1000000) : Spec Tryz.prog 14 [.agg (c3 r z a n c).toArray, .agg (c3 t w b m d).toArray] [rsl 1 a n c (xs.map ys), rsl 1 b m d (us.map ys)] [] (fun v D' M' => v = .int .i64 (if r = t ∧ z = w ∧ xs = us then 0 else -1) ∧ D' = [] ∧ M' = []) := by
 refine Spec.intro (n := 38) Tryz.func14 rfl rfl (by decide) (Nat.le_of_ble_eq_true rfl) rfl (fun _ => qA) (fun _ => qA) ?_
 intro σ D M
 refine T.rslLen2 (rows := xs.map ys) qM (fun hxl hxc => ?_)
 rw [List.length_map] at hxl
 refine T.rslLen2 (rows := us.map ys) qM (fun hyl hyc => ?_)
 rw [List.length_map] at hyl
 
 refine T.seq (T.region ?_)
 refine L.box rfl rfl rfl (fun b2 => ?_)
 refine L.box rfl rfl rfl (fun b3 => ?_)
 refine L.assign rfl rfl ?_
 refine L.nil ?_
 refine T.freeze (A := cl b2 43 (c3 r z a n c)) qP ?_
 refine T.freeze (A := cl b3 43 (c3 t w b m d)) qP ?_
 refine T.thenN (T.seq (T.seq (T.region ?_)))
 first | refine L.field0 rfl fo43_0 rfl ?_ | refine L.field rfl fo43_0 rfl ?_
 refine L.loadA rfl ag41 rfl qN ?_
 first | refine L.field0 rfl fo43_0 rfl ?_ | refine L.field rfl fo43_0 rfl ?_
 refine L.loadA rfl ag41 rfl qN ?_
 refine L.neqSN qk rfl Tryz.underlying41 rfl rfl qk rfl rfl qk Tryz.underlying9 sc9 Tryz.underlying3 sc3 qk rfl rfl ?_
 refine L.move rfl rfl ?_
 refine L.part (t := 11) rfl (fun h1 => ?_) (fun h1 => ?_)
 ·try simp only [dq] at h1
  refine L.guardF (dj := 11) (c := true) rfl rfl rfl rfl rfl (by decide) ?_
  refine L.guardF (dj := 11) (c := true) rfl rfl rfl rfl rfl (by decide) ?_
  refine L.guardF (dj := 11) (c := true) rfl rfl rfl rfl rfl (by decide) ?_
  refine L.guardF (dj := 11) (c := true) rfl rfl rfl rfl rfl (by decide) ?_
  refine L.guardF (dj := 11) (c := true) rfl rfl rfl rfl rfl (by decide) ?_
  refine L.guardF (dj := 11) (c := true) rfl rfl rfl rfl rfl (by decide) ?_
  refine L.guardF (dj := 11) (c := true) rfl rfl rfl rfl rfl (by decide) ?_
  refine L.pickT rfl rfl rfl ?_
  refine L.nil ?_
  refine T.thenN ?_
  refine T.condT rfl rfl ?_
  refine T.seq (T.region ?_)
  refine L.assign rfl rfl ?_
  refine L.nil ?_
  refine T.thenN (T.ret ?_)
  refine T.thenR ?_
  exact T.ret1 rfl rfl ⟨by rw [if_neg (fun q => absurd (And.intro q.1 q.2.1) (by simpa using h1))], rfl, rfl⟩ qD qF
 ·try simp only [dq] at h1
  refine L.guardT (dj := 11) rfl rfl rfl ?_
  first | refine L.field0 rfl fo43_1 rfl ?_ | refine L.field rfl fo43_1 rfl ?_
  refine L.guardT (dj := 11) rfl rfl rfl ?_
  refine L.load rfl sc25 rfl qC ?_
  refine L.guardT (dj := 11) rfl rfl rfl ?_
  refine L.lenSl rfl Tryz.underlying25 rfl ?_
  refine L.guardT (dj := 11) rfl rfl rfl ?_
  first | refine L.field0 rfl fo43_1 rfl ?_ | refine L.field rfl fo43_1 rfl ?_
  refine L.guardT (dj := 11) rfl rfl rfl ?_
  refine L.load rfl sc25 rfl qC ?_
  refine L.guardT (dj := 11) rfl rfl rfl ?_
  refine L.lenSl rfl Tryz.underlying25 rfl ?_
  refine L.guardT (dj := 11) rfl rfl rfl ?_
  refine L.neI rfl rfl rfl ?_
  refine L.pickF rfl rfl rfl ?_
  refine L.nil ?_
  refine T.thenN ?_
  refine T.cond rfl (fun h19 => ?_) (fun h19 => ?_)
  ·try simp only [dq] at h19
   refine T.seq (T.region ?_)
   refine L.assign rfl rfl ?_
   refine L.nil ?_
   refine T.thenN (T.ret ?_)
   refine T.thenR ?_
   exact T.ret1 rfl rfl ⟨by rw [if_neg (fun q => by have := congrArg List.length q.2.2; omega)], rfl, rfl⟩ qD qF
  ·try simp only [dq] at h19
   refine T.skip (T.thenN (T.seq (T.seq (T.region ?_))))
   first | refine L.field0 rfl fo43_1 rfl ?_ | refine L.field rfl fo43_1 rfl ?_
   refine L.load rfl sc25 rfl qC ?_
   refine L.lenSl rfl Tryz.underlying25 rfl ?_
   refine L.move rfl rfl ?_
   refine L.nil ?_
   refine T.thenN (T.block ?_)
   refine T.loop (fun K' D' M' μ => ∃ (i : Nat), (i ≤ n ∧ xs.take i = us.take i) ∧ K' = [(23, .int .i64 (i : Int))] ∧ D' = [] ∧ M' = [] ∧ μ = n - i) (.cons (t := 2) rfl <| .cons (t := 3) rfl <| .cons (t := 22) rfl <| SubK.nil _) (⟨0, ⟨Nat.zero_le _, by simp⟩, rfl, rfl, rfl, rfl⟩) (.cons (t := 23) rfl <| SubK.nil _) qD qS ?_
   rintro K1 D1 M1 m1 ⟨i, ⟨hi, he⟩, rfl, rfl, rfl, rfl⟩
   refine T.norm3 qA qA qA ?_
   refine T.seq (T.region ?_)
   refine L.ltI rfl rfl rfl ?_
   refine L.nil ?_
   refine T.thenN (T.seq ?_)
   refine T.cond rfl (fun h24 => ?_) (fun h24 => ?_)
   ·try simp only [dq] at h24
    refine T.skip (T.thenN (T.seq (T.block (T.seq (T.region ?_)))))
    refine L.move rfl rfl ?_
    refine L.assign rfl rfl ?_
    refine L.nil ?_
    refine T.thenN (T.seq ?_)
    have hg0 : xs[i]? = some (gd xs i) := gd_get (by omega)
    have hgr0 : (xs.map ys)[i]? = some (ys (gd xs i)) := map_get hg0
    refine T.rslAddr (rows := xs.map ys) qM (fun e => by have := congrArg List.length e; rw [List.length_map] at this; simp only [List.length_nil] at this; omega) (fun b00 o00 ha => ?_)
    subst ha
    have hg1 : us[i]? = some (gd us i) := gd_get (by omega)
    have hgr1 : (us.map ys)[i]? = some (ys (gd us i)) := map_get hg1
    refine T.rslAddr (rows := us.map ys) qM (fun e => by have := congrArg List.length e; rw [List.length_map] at this; simp only [List.length_nil] at this; omega) (fun b10 o10 ha => ?_)
    subst ha
    refine T.regionQ qk qk ?_
    first | refine L.field0 rfl fo43_1 rfl ?_ | refine L.field rfl fo43_1 rfl ?_
    refine L.load rfl sc25 rfl qC ?_
    refine L.move rfl rfl ?_
    refine L.idxR (i := i) rfl Tryz.underlying25 sz9 rfl rfl qM (by first | rfl | omega | (simp; done)) qI qG ?_
    refine L.load rfl sc9 rfl qC ?_
    first | refine L.field0 rfl fo43_1 rfl ?_ | refine L.field rfl fo43_1 rfl ?_
    refine L.load rfl sc25 rfl qC ?_
    refine L.move rfl rfl ?_
    refine L.idxR (i := i) rfl Tryz.underlying25 sz9 rfl rfl qM (by first | rfl | omega | (simp; done)) qI qG ?_
    refine L.load rfl sc9 rfl qC ?_
    refine L.neS rfl rfl rfl ?_
    refine L.nilQ ?_
    refine T.thenN ?_
    refine T.cond rfl (fun h36 => ?_) (fun h36 => ?_)
    ·try simp only [dq] at h36
     refine T.seq (T.region ?_)
     refine L.assign rfl rfl ?_
     refine L.nil ?_
     refine T.thenN (T.ret (T.blkR ?_))
     refine T.thenR ?_
     refine T.thenR ?_
     refine T.blkR ?_
     refine T.thenR ?_
     exact T.ret1 rfl rfl ⟨by rw [if_neg (fun q => absurd (by rw [q.2.2]) (show gd xs i ≠ gd us i by simpa using h36))], rfl, rfl⟩ qD qF
    ·try simp only [dq] at h36
     refine T.skip (T.blkN (T.thenN (T.region ?_)))
     refine L.addN rfl rfl rfl (by omega) ?_
     refine L.move rfl rfl ?_
     refine L.nil ?_
     refine T.thenN ?_
     exact T.back ⟨i + 1, ⟨by omega, eq_nextG (by omega) (by omega) he (by simpa using h36)⟩, rfl, rfl, rfl, rfl⟩ qI (.cons (t := 23) rfl <| SubK.nil _) (.cons (t := 2) rfl <| .cons (t := 3) rfl <| .cons (t := 22) rfl <| SubK.nil _) qD qD qF
   ·try simp only [dq] at h24
    refine T.exit (T.thenX (T.thenX (T.blkX (T.thenN (T.seq (T.region ?_))))))
    refine L.assign rfl rfl ?_
    refine L.nil ?_
    refine T.thenN (T.ret ?_)
    have h2 : r = t ∧ z = w := by simpa using h1
    exact T.ret1 rfl rfl ⟨by rw [if_pos ⟨h2.1, h2.2, by rw [List.take_of_length_le (by omega), List.take_of_length_le (by omega)] at he; exact he⟩], rfl, rfl⟩ qD qF
end Cv
