/-
  The walks: Compare.
-/
import Derived.Test.YtcilkdnbbebjgaaGreatD05
import Derived.Test.YtcilkdnbbebjgaaGreatI05
import Derived.Test.YtcilkdnbbebjgaaGreatN05
import Derived.Test.YtcilkdnbbebjgaaGreatProg
import Derived.KernelRfl
set_option linter.unusedVariables false
set_option linter.unusedSimpArgs false
set_option linter.unusedSectionVars false
set_option maxRecDepth 10000
namespace Cv
open Go Go.Proofs

set_option maxHeartbeats 400000 in
theorem isnan_spec {x : Int}  : Spec Tryz.prog 136 [.int .i64 x] [] [] (fun v D' M' => v = .bool false ∧ D' = [] ∧ M' = []) := by
 refine Spec.intro (n := 6) Tryz.func136 rfl rfl (by decide) (Nat.le_of_ble_eq_true rfl) rfl (fun _ => qA) (fun _ => qA) ?_
 intro σ D M
 refine T.seq (T.region ?_)
 refine L.assign rfl rfl ?_
 refine L.nil ?_
 refine T.thenN (T.seq (T.region ?_))
 refine L.move rfl rfl ?_
 refine L.move rfl rfl ?_
 refine L.neI rfl rfl rfl ?_
 refine L.assign rfl rfl ?_
 refine L.nil ?_
 refine T.thenN (T.ret ?_)
 exact T.ret1 rfl rfl ⟨congrArg Value.bool (by simp), rfl, rfl⟩ qD qF
set_option maxHeartbeats 400000 in
theorem compare_spec {x y : Int}  : Spec Tryz.prog 105 [.int .i64 x, .int .i64 y] [] [] (fun v D' M' => v = .int .i64 (cmpI x y) ∧ D' = [] ∧ M' = []) := by
 refine Spec.intro (n := 20) Tryz.func105 rfl rfl (by decide) (Nat.le_of_ble_eq_true rfl) rfl (fun _ => qA) (fun _ => qA) ?_
 intro σ D M
 refine T.seq (T.region ?_)
 refine L.assign rfl rfl ?_
 refine L.nil ?_
 refine T.thenN (T.seq (T.region ?_))
 refine L.move rfl rfl ?_
 refine L.callF rfl (evs.cons rfl <| evs.nil) qD qS (isnan_spec ) (by rintro u D1 M1 ⟨rfl, rfl, rfl⟩; exact ⟨rfl, _, qA, qF⟩) ?_
 refine L.assign rfl rfl ?_
 refine L.nil ?_
 refine T.thenN (T.seq (T.region ?_))
 refine L.move rfl rfl ?_
 refine L.callF rfl (evs.cons rfl <| evs.nil) qD qS (isnan_spec ) (by rintro u D1 M1 ⟨rfl, rfl, rfl⟩; exact ⟨rfl, _, qA, qF⟩) ?_
 refine L.assign rfl rfl ?_
 refine L.nil ?_
 refine T.thenN (T.seq (T.seq (T.region ?_)))
 refine L.move rfl rfl ?_
 refine L.nil ?_
 refine T.thenN ?_
 refine T.condF rfl rfl ?_
 refine T.skip (T.thenN (T.seq (T.seq (T.region ?_))))
 refine L.move rfl rfl ?_
 refine L.nil ?_
 refine T.thenN ?_
 refine T.condF rfl rfl ?_
 refine T.skip (T.thenN (T.seq (T.seq (T.region ?_))))
 refine L.move rfl rfl ?_
 refine L.move rfl rfl ?_
 refine L.ltI rfl rfl rfl ?_
 refine L.nil ?_
 refine T.thenN ?_
 refine T.cond rfl (fun h16 => ?_) (fun h16 => ?_)
 ·try simp only [dq] at h16
  refine T.seq (T.region ?_)
  refine L.assign rfl rfl ?_
  refine L.nil ?_
  refine T.thenN (T.ret ?_)
  refine T.thenR ?_
  exact T.ret1 rfl rfl ⟨by rw [cmpI, if_pos h16], rfl, rfl⟩ qD qF
 ·try simp only [dq] at h16
  refine T.skip (T.thenN (T.seq (T.seq (T.region ?_))))
  refine L.move rfl rfl ?_
  refine L.move rfl rfl ?_
  refine L.gtI rfl rfl rfl ?_
  refine L.nil ?_
  refine T.thenN ?_
  refine T.cond rfl (fun h19 => ?_) (fun h19 => ?_)
  ·try simp only [dq] at h19
   refine T.seq (T.region ?_)
   refine L.assign rfl rfl ?_
   refine L.nil ?_
   refine T.thenN (T.ret ?_)
   refine T.thenR ?_
   exact T.ret1 rfl rfl ⟨by rw [cmpI, if_neg h16, if_pos h19], rfl, rfl⟩ qD qF
  ·try simp only [dq] at h19
   refine T.skip (T.thenN (T.seq (T.region ?_)))
   refine L.assign rfl rfl ?_
   refine L.nil ?_
   refine T.thenN (T.ret ?_)
   exact T.ret1 rfl rfl ⟨by rw [cmpI, if_neg h16, if_neg h19], rfl, rfl⟩ qD qF
set_option maxHeartbeats 400000 in
theorem or_spec {a : Option Addr} {len cap : Nat} {xs : List Int} (hb : len ≤ 4611686018427387904) : Spec Tryz.prog 104 [.slice a len cap] [rsl 1 a len cap (xs.map e3)] [] (fun v D' M' => v = .int .i64 (orF xs) ∧ D' = [] ∧ M' = []) := by
 refine Spec.intro (n := 18) Tryz.func104 rfl rfl (by decide) (Nat.le_of_ble_eq_true rfl) rfl (fun _ => qA) (fun _ => qA) ?_
 intro σ D M
 refine T.rslLen2 qM (fun hl hc => ?_)
 rw [List.length_map] at hl
 refine T.seq (T.region ?_)
 refine L.assign rfl rfl ?_
 refine L.nil ?_
 refine T.thenN (T.seq (T.region ?_))
 refine L.assign rfl rfl ?_
 refine L.nil ?_
 refine T.thenN (T.seq (T.seq (T.region ?_)))
 refine L.move rfl rfl ?_
 refine L.lenSl rfl Tryz.underlying171 rfl ?_
 refine L.move rfl rfl ?_
 refine L.nil ?_
 refine T.thenN (T.block ?_)
 refine T.loop (fun K' D' M' μ => ∃ (k : Nat), (k ≤ len ∧ orF xs = orF (xs.drop k)) ∧ K' = [(8, .int .i64 k)] ∧ D' = [] ∧ M' = [] ∧ μ = len - k) (.cons (t := 3) rfl <| .cons (t := 6) rfl <| .cons (t := 7) rfl <| SubK.nil _) (⟨0, ⟨by omega, by simp⟩, rfl, rfl, rfl, rfl⟩) (.cons (t := 8) rfl <| SubK.nil _) qD qS ?_
 rintro K1 D1 M1 m1 ⟨k, ⟨hk, ho⟩, rfl, rfl, rfl, rfl⟩
 refine T.norm3 qA qA qA ?_
 refine T.seq (T.region ?_)
 refine L.ltI rfl rfl rfl ?_
 refine L.nil ?_
 refine T.thenN (T.seq ?_)
 refine T.cond rfl (fun h9 => ?_) (fun h9 => ?_)
 ·try simp only [dq] at h9
  refine T.skip (T.thenN (T.seq (T.block (T.seq (T.region ?_)))))
  have hgd : xs[k]? = some (gd xs k) := gd_get (by omega)
  refine L.idx (i := k) rfl Tryz.underlying171 sz3 rfl rfl qM (by first | rfl | omega | (simp; done)) qG (fun b10 o10 => ?_)
  refine L.load rfl sc3 rfl qC ?_
  refine L.assign rfl rfl ?_
  refine L.nil ?_
  refine T.thenN (T.seq (T.region ?_))
  refine L.move rfl rfl ?_
  refine L.move rfl rfl ?_
  refine L.neI rfl rfl rfl ?_
  refine L.nil ?_
  refine T.thenN ?_
  refine T.cond rfl (fun h14 => ?_) (fun h14 => ?_)
  ·try simp only [dq] at h14
   refine T.seq (T.region ?_)
   refine L.move rfl rfl ?_
   refine L.assign rfl rfl ?_
   refine L.nil ?_
   refine T.thenN (T.ret (T.blkR ?_))
   refine T.thenR ?_
   refine T.thenR ?_
   refine T.blkR ?_
   refine T.thenR ?_
   exact T.ret1 rfl rfl ⟨by rw [ho, orF_drop (by omega), if_pos h14], rfl, rfl⟩ qD qF
  ·try simp only [dq] at h14
   refine T.skip (T.blkN (T.thenN (T.region ?_)))
   refine L.addN rfl rfl rfl (by omega) ?_
   refine L.move rfl rfl ?_
   refine L.nil ?_
   refine T.thenN ?_
   exact T.back ⟨k + 1, ⟨by omega, by rw [ho, orF_drop (by omega), if_neg (by simpa using h14)]⟩, rfl, rfl, rfl, rfl⟩ qI (.cons (t := 8) rfl <| SubK.nil _) (.cons (t := 3) rfl <| .cons (t := 6) rfl <| .cons (t := 7) rfl <| SubK.nil _) qD qD qF
 ·try simp only [dq] at h9
  refine T.exit (T.thenX (T.thenX (T.blkX (T.thenN (T.seq (T.region ?_))))))
  refine L.move rfl rfl ?_
  refine L.assign rfl rfl ?_
  refine L.nil ?_
  refine T.thenN (T.ret ?_)
  exact T.ret1 rfl rfl ⟨by rw [ho, List.drop_of_length_le (by omega)]; rfl, rfl, rfl⟩ qD qF
def CompS (x : Tr) : Prop := ∀ (a : Option Addr) (len cap : Nat) (z : Tr) (a2 : Option Addr) (len2 cap2 : Nat), x.count ≤ 1000000 → Spec Tryz.prog 67 [.agg (iRow x a len cap).toArray, .agg (iRow z a2 len2 cap2).toArray] [rtr x (eRow x a len cap), rtr z (eRow z a2 len2 cap2)] [] (fun v D' M' => v = .int .i64 (compT x z) ∧ D' = [] ∧ M' = [])
set_option maxHeartbeats 400000 in
theorem comp1_spec {x : Tr} (ih : CompS x) {a : Option Addr} {len cap : Nat} {z : Tr} {a2 : Option Addr} {len2 cap2 : Nat} (hc : x.count ≤ 1000000) : Spec Tryz.prog 108 [.agg (eRow x a len cap).toArray, .agg (eRow z a2 len2 cap2).toArray] [rtr x (eRow x a len cap), rtr z (eRow z a2 len2 cap2)] [] (fun v D' M' => v = .int .i64 (lexI (cmpB x.n z.n) (compT x z)) ∧ D' = [] ∧ M' = []) := by
 refine Spec.intro (n := 17) Tryz.func108 rfl rfl (by decide) (Nat.le_of_ble_eq_true rfl) rfl (fun _ => qA) (fun _ => qA) ?_
 intro σ D M
 refine T.seq (T.region ?_)
 refine L.box rfl rfl rfl (fun b2 => ?_)
 refine L.box rfl rfl rfl (fun b3 => ?_)
 refine L.assign rfl rfl ?_
 refine L.nil ?_
 refine T.freeze (A := cl b2 142 (eRow x a len cap)) qP ?_
 refine T.freeze (A := cl b3 142 (eRow z a2 len2 cap2)) qP ?_
 refine T.thenN (T.seq ?_)
 refine T.regionA (clsL [1, 1, 1, 1, 2, 1, 1, 1, 1, 2, 2, 2, 2]) qk ?_
 refine A.takeP (i := 0) rfl rfl rfl rfl qk qk qk rfl qD ?_
 first | refine L.field0 rfl fo142_0 rfl ?_ | refine L.field rfl fo142_0 rfl ?_
 refine A.took ?_
 refine A.takeP (i := 1) rfl rfl rfl rfl qk qk qk rfl qD ?_
 refine L.load rfl sc9 rfl qC ?_
 refine A.took ?_
 refine A.takeP (i := 2) rfl rfl rfl rfl qk qk qk rfl qD ?_
 first | refine L.field0 rfl fo142_0 rfl ?_ | refine L.field rfl fo142_0 rfl ?_
 refine A.took ?_
 refine A.takeP (i := 3) rfl rfl rfl rfl qk qk qk rfl qD ?_
 refine L.load rfl sc9 rfl qC ?_
 refine A.took ?_
 refine A.takeP (i := 5) rfl rfl rfl rfl qk qk qk rfl qD ?_
 first | refine L.field0 rfl fo142_1 rfl ?_ | refine L.field rfl fo142_1 rfl ?_
 refine A.took ?_
 refine A.takeP (i := 6) rfl rfl rfl rfl qk qk qk rfl qD ?_
 refine L.loadA rfl ag24 rfl qN ?_
 refine A.took ?_
 refine A.takeP (i := 7) rfl rfl rfl rfl qk qk qk rfl qD ?_
 first | refine L.field0 rfl fo142_1 rfl ?_ | refine L.field rfl fo142_1 rfl ?_
 refine A.took ?_
 refine A.takeP (i := 8) rfl rfl rfl rfl qk qk qk rfl qD ?_
 refine L.loadA rfl ag24 rfl qN ?_
 refine A.took ?_
 refine A.branch (is := [4]) qk (by decide) (Each.cons rfl ?_ <| Each.nil) 
 refine L.callF rfl (evs.cons rfl <| evs.cons rfl <| evs.nil) qD qS (scmp_spec (p := x.n) (q := z.n)) (by rintro u D1 M1 ⟨rfl, rfl, rfl⟩; exact ⟨rfl, _, qA, qF⟩) ?_
 refine A.backT rfl qD ?_
 refine A.branch (is := [9]) qk (by decide) (Each.cons rfl ?_ <| Each.nil) 
 refine L.callF rfl (evs.cons rfl <| evs.cons rfl <| evs.nil) qD qS (ih a len cap z a2 len2 cap2 hc) (by rintro u D1 M1 ⟨rfl, rfl, rfl⟩; exact ⟨rfl, _, qA, qF⟩) ?_
 refine A.backT rfl qD ?_
 refine A.branch (is := [10]) qk (by decide) (Each.cons rfl ?_ <| Each.nil) 
 refine L.buildSlice rfl bs171 (by decide) (BP.one rfl rfl rfl <| BP.one rfl rfl rfl <| BP.doneE (out := []) rfl) (fun b15 => ?_)
 refine L.toOwn (len := 2) (sz := 1) (e := 3) (rows := [cmpB x.n z.n, compT x z].map e3) qP (by rfl) rfl (by simp) ?_
 refine L.ownRsl qP ?_
 refine A.backT rfl qD ?_
 refine A.branch (is := [11]) qk (by decide) (Each.cons rfl ?_ <| Each.nil) 
 refine L.callF rfl (evs.cons rfl <| evs.nil) qD qS (or_spec (xs := [cmpB x.n z.n, compT x z]) (by decide)) (by rintro u D1 M1 ⟨rfl, rfl, rfl⟩; exact ⟨rfl, _, qA, qF⟩) ?_
 refine A.backT rfl qD ?_
 refine A.branch (is := [12]) qk (by decide) (Each.cons rfl ?_ <| Each.nil) 
 refine L.assign rfl rfl ?_
 refine A.backT rfl qD ?_
 refine A.done qk ?_
 refine T.thenN (T.ret ?_)
 exact T.ret1 rfl rfl ⟨by rw [or2], rfl, rfl⟩ qD qF
set_option maxHeartbeats 400000 in
theorem compf_spec {ks ks2 : List Tr} (hc : ∀ y ∈ ks, CompS y ∧ y.count ≤ 1000000) {a : Option Addr} {len cap : Nat} {a2 : Option Addr} {len2 cap2 : Nat} {rows rows2 : List (List Value)} (hb : len ≤ 1000000) (hkl : ks.length = len) (hkl2 : ks2.length = len2) : Spec Tryz.prog 107 [.slice a len cap, .slice a2 len2 cap2, fnV 108 []] [rsl 4 a len cap rows, kidsA ks rows, rsl 4 a2 len2 cap2 rows2, kidsA ks2 rows2] [] (fun v D' M' => v = .int .i64 (compL ks ks2) ∧ D' = [] ∧ M' = []) := by
 refine Spec.intro (n := 39) Tryz.func107 rfl rfl (by decide) (Nat.le_of_ble_eq_true rfl) rfl (fun _ => qA) (fun _ => qA) ?_
 intro σ D M
 refine T.rslLen (a := a) qM (fun hrl => ?_)
 refine T.rslLen (a := a2) qM (fun hrl2 => ?_)
 refine T.kidRows (rows := rows) qM (fun hrw => ?_)
 refine T.kidRows (rows := rows2) qM (fun hrw2 => ?_)
 refine T.seq (T.region ?_)
 refine L.assign rfl rfl ?_
 refine L.nil ?_
 refine T.thenN (T.seq (T.seq (T.region ?_)))
 refine L.move rfl rfl ?_
 refine L.lenSl rfl Tryz.underlying22 rfl ?_
 refine L.move rfl rfl ?_
 refine L.nil ?_
 refine T.thenN (T.block ?_)
 refine T.loop (fun K' D' M' μ => ∃ (i : Nat), ((i ≤ len ∧ i ≤ len2) ∧ compL ks ks2 = compL (ks.drop i) (ks2.drop i)) ∧ K' = [(13, .int .i64 i)] ∧ D' = [] ∧ M' = [] ∧ μ = len - i) (.cons (t := 0) rfl <| .cons (t := 1) rfl <| .cons (t := 2) rfl <| .cons (t := 11) rfl <| .cons (t := 12) rfl <| SubK.nil _) (⟨0, ⟨by omega, by simp⟩, rfl, rfl, rfl, rfl⟩) (.cons (t := 13) rfl <| SubK.nil _) qD qS ?_
 rintro K1 D1 M1 m1 ⟨i, ⟨hi, hI⟩, rfl, rfl, rfl, rfl⟩
 refine T.norm3 qA qA qA ?_
 refine T.seq (T.region ?_)
 refine L.ltI rfl rfl rfl ?_
 refine L.nil ?_
 refine T.thenN (T.seq ?_)
 refine T.cond rfl (fun h14 => ?_) (fun h14 => ?_)
 ·try simp only [dq] at h14
  refine T.skip (T.thenN (T.seq (T.block (T.seq ?_))))
  have hy : ks[i]? = some (gd ks i) := gd_get (by omega)
  obtain ⟨y, hyy⟩ : ∃ y, y = gd ks i := ⟨_, rfl⟩
  rw [← hyy] at hy
  refine T.kidOpen (rows := rows) qM hy (fun ka kl kc hr => ?_)
  refine T.region ?_
  refine L.move rfl rfl ?_
  refine L.idx (i := i) rfl Tryz.underlying22 sz142 rfl rfl qM (by first | rfl | omega | (simp; done)) qG (fun b16 o16 => ?_)
  refine L.loadA rfl ag142 rfl qN ?_
  refine L.alloc rfl ze142 (fun b8 => ?_)
  refine L.assign rfl rfl ?_
  refine L.storeA ag142 rfl rfl qL qO qU qW ?_
  refine L.nil ?_
  refine T.thenN (T.seq (T.seq (T.region ?_)))
  refine L.move rfl rfl ?_
  refine L.move rfl rfl ?_
  refine L.lenSl rfl Tryz.underlying22 rfl ?_
  refine L.geI rfl rfl rfl ?_
  refine L.nil ?_
  refine T.thenN ?_
  refine T.cond rfl (fun h21 => ?_) (fun h21 => ?_)
  ·try simp only [dq] at h21
   refine T.seq (T.region ?_)
   refine L.assign rfl rfl ?_
   refine L.nil ?_
   refine T.thenN (T.ret ?_)
   refine T.thenR ?_
   refine T.blkR ?_
   refine T.thenR ?_
   refine T.thenR ?_
   refine T.blkR ?_
   refine T.thenR ?_
   exact T.ret1 rfl rfl ⟨by rw [hI, compL_long (by omega) (by omega)], rfl, rfl⟩ qD qF
  ·try simp only [dq] at h21
   refine T.skip (T.thenN (T.seq ?_))
   have hz : ks2[i]? = some (gd ks2 i) := gd_get (by omega)
   obtain ⟨z, hzz⟩ : ∃ y, y = gd ks2 i := ⟨_, rfl⟩
   rw [← hzz] at hz
   refine T.kidOpen (rows := rows2) qM hz (fun za zl zc hr2 => ?_)
   refine T.region ?_
   refine L.move rfl rfl ?_
   refine L.move rfl rfl ?_
   refine L.idx (i := i) rfl Tryz.underlying22 sz142 rfl rfl qM (by first | rfl | omega | (simp; done)) qG (fun b24 o24 => ?_)
   refine L.loadA rfl ag142 rfl qN ?_
   refine L.alloc rfl ze142 (fun b9 => ?_)
   refine L.storeA ag142 rfl rfl qL qO qU qW ?_
   refine L.nil ?_
   refine T.thenN (T.seq (T.region ?_))
   refine L.move rfl rfl ?_
   refine L.loadA rfl ag142 rfl qN ?_
   refine L.loadA rfl ag142 rfl qN ?_
   refine L.callVF rfl rfl (evs.cons rfl <| evs.cons rfl <| evs.nil) qD qS (comp1_spec (hc y (kid_mem hy)).1 (hc y (kid_mem hy)).2) (by rintro u D1 M1 ⟨rfl, rfl, rfl⟩; exact ⟨rfl, _, qA, qF⟩) ?_
   refine L.assign rfl rfl ?_
   refine L.nil ?_
   refine T.thenN (T.seq (T.region ?_))
   refine L.move rfl rfl ?_
   refine L.neI rfl rfl rfl ?_
   refine L.nil ?_
   refine T.thenN ?_
   refine T.cond rfl (fun h31 => ?_) (fun h31 => ?_)
   ·try simp only [dq] at h31
    refine T.seq (T.region ?_)
    refine L.move rfl rfl ?_
    refine L.assign rfl rfl ?_
    refine L.nil ?_
    refine T.thenN (T.ret (T.blkR ?_))
    refine T.thenR ?_
    refine T.thenR ?_
    refine T.blkR ?_
    refine T.thenR ?_
    exact T.ret1 rfl rfl ⟨by rw [hI, compL_step hy hz, lexI.eq_1 (lexI _ _), if_pos h31], rfl, rfl⟩ qD qF
   ·try simp only [dq] at h31
    refine T.skip (T.blkN (T.thenN (T.region ?_)))
    refine L.addN rfl rfl rfl (by omega) ?_
    refine L.move rfl rfl ?_
    refine L.nil ?_
    refine T.thenN ?_
    exact T.back ⟨i + 1, ⟨by omega, by rw [hI, compL_step hy hz, lexI, if_neg (by simpa using h31)]⟩, rfl, rfl, rfl, rfl⟩ qI (.cons (t := 13) rfl <| SubK.nil _) (.cons (t := 0) rfl <| .cons (t := 1) rfl <| .cons (t := 2) rfl <| .cons (t := 11) rfl <| .cons (t := 12) rfl <| SubK.nil _) qD qD qF
 ·try simp only [dq] at h14
  refine T.exit (T.thenX (T.thenX (T.blkX (T.thenN (T.seq (T.seq (T.region ?_)))))))
  refine L.move rfl rfl ?_
  refine L.lenSl rfl Tryz.underlying22 rfl ?_
  refine L.move rfl rfl ?_
  refine L.lenSl rfl Tryz.underlying22 rfl ?_
  refine L.ltI rfl rfl rfl ?_
  refine L.nil ?_
  refine T.thenN ?_
  refine T.cond rfl (fun h38 => ?_) (fun h38 => ?_)
  ·try simp only [dq] at h38
   refine T.seq (T.region ?_)
   refine L.assign rfl rfl ?_
   refine L.nil ?_
   refine T.thenN (T.ret ?_)
   refine T.thenR ?_
   exact T.ret1 rfl rfl ⟨by rw [hI, compL_end (by omega), if_pos (by omega)], rfl, rfl⟩ qD qF
  ·try simp only [dq] at h38
   refine T.skip (T.thenN (T.seq (T.region ?_)))
   refine L.assign rfl rfl ?_
   refine L.nil ?_
   refine T.thenN (T.ret ?_)
   exact T.ret1 rfl rfl ⟨by rw [hI, compL_end (by omega), if_neg (by omega)], rfl, rfl⟩ qD qF
set_option maxHeartbeats 400000 in
theorem comp_step (x : Tr) (ih : ∀ y ∈ x.ks, CompS y) (a : Option Addr) (len cap : Nat) (z : Tr) (a2 : Option Addr) (len2 cap2 : Nat) (hc : x.count ≤ 1000000) : Spec Tryz.prog 67 [.agg (iRow x a len cap).toArray, .agg (iRow z a2 len2 cap2).toArray] [rtr x (eRow x a len cap), rtr z (eRow z a2 len2 cap2)] [] (fun v D' M' => v = .int .i64 (compT x z) ∧ D' = [] ∧ M' = []) := by
 refine Spec.intro (n := 26) Tryz.func67 rfl rfl (by decide) (Nat.le_of_ble_eq_true rfl) rfl (fun _ => qA) (fun _ => qA) ?_
 intro σ D M
 refine T.trOpenR (x := x) qM (fun rows hkl hrl => ?_)
 subst hkl
 refine T.trOpenR (x := z) qM (fun rows2 hkl2 hrl2 => ?_)
 subst hkl2
 have hcx := x.count_eq
 have hcl := count_le_len x.ks
 refine T.seq (T.region ?_)
 refine L.box rfl rfl rfl (fun b2 => ?_)
 refine L.box rfl rfl rfl (fun b3 => ?_)
 refine L.assign rfl rfl ?_
 refine L.nil ?_
 refine T.freeze (A := cl b2 24 [.int .i64 x.k, S x.t, .slice a x.ks.length cap]) qP ?_
 refine T.freeze (A := cl b3 24 [.int .i64 z.k, S z.t, .slice a2 z.ks.length cap2]) qP ?_
 refine T.thenN (T.seq (T.seq ?_))
 refine T.regionA (clsL [1, 1, 1, 1, 2, 1, 1, 1, 1, 2, 2, 2, 2]) qk ?_
 refine A.takeP (i := 0) rfl rfl rfl rfl qk qk qk rfl qD ?_
 first | refine L.field0 rfl fo24_0 rfl ?_ | refine L.field rfl fo24_0 rfl ?_
 refine A.took ?_
 refine A.takeP (i := 1) rfl rfl rfl rfl qk qk qk rfl qD ?_
 refine L.load rfl sc3 rfl qC ?_
 refine A.took ?_
 refine A.takeP (i := 2) rfl rfl rfl rfl qk qk qk rfl qD ?_
 first | refine L.field0 rfl fo24_0 rfl ?_ | refine L.field rfl fo24_0 rfl ?_
 refine A.took ?_
 refine A.takeP (i := 3) rfl rfl rfl rfl qk qk qk rfl qD ?_
 refine L.load rfl sc3 rfl qC ?_
 refine A.took ?_
 refine A.takeP (i := 5) rfl rfl rfl rfl qk qk qk rfl qD ?_
 first | refine L.field0 rfl fo24_1 rfl ?_ | refine L.field rfl fo24_1 rfl ?_
 refine A.took ?_
 refine A.takeP (i := 6) rfl rfl rfl rfl qk qk qk rfl qD ?_
 refine L.load rfl sc9 rfl qC ?_
 refine A.took ?_
 refine A.takeP (i := 7) rfl rfl rfl rfl qk qk qk rfl qD ?_
 first | refine L.field0 rfl fo24_1 rfl ?_ | refine L.field rfl fo24_1 rfl ?_
 refine A.took ?_
 refine A.takeP (i := 8) rfl rfl rfl rfl qk qk qk rfl qD ?_
 refine L.load rfl sc9 rfl qC ?_
 refine A.took ?_
 refine A.branch (is := [4]) qk (by decide) (Each.cons rfl ?_ <| Each.nil) 
 refine L.callF rfl (evs.cons rfl <| evs.cons rfl <| evs.nil) qD qS (compare_spec (x := x.k) (y := z.k)) (by rintro u D1 M1 ⟨rfl, rfl, rfl⟩; exact ⟨rfl, _, qA, qF⟩) ?_
 refine A.backT rfl qD ?_
 refine A.branch (is := [9]) qk (by decide) (Each.cons rfl ?_ <| Each.nil) 
 refine L.callF rfl (evs.cons rfl <| evs.cons rfl <| evs.nil) qD qS (scmp_spec (p := x.t) (q := z.t)) (by rintro u D1 M1 ⟨rfl, rfl, rfl⟩; exact ⟨rfl, _, qA, qF⟩) ?_
 refine A.backT rfl qD ?_
 refine A.branch (is := [10]) qk (by decide) (Each.cons rfl ?_ <| Each.nil) 
 refine L.buildSlice rfl bs171 (by decide) (BP.one rfl rfl rfl <| BP.one rfl rfl rfl <| BP.doneE (out := []) rfl) (fun b16 => ?_)
 refine L.toOwn (len := 2) (sz := 1) (e := 3) (rows := [cmpI x.k z.k, cmpB x.t z.t].map e3) qP (by rfl) rfl (by simp) ?_
 refine L.ownRsl qP ?_
 refine A.backT rfl qD ?_
 refine A.branch (is := [11]) qk (by decide) (Each.cons rfl ?_ <| Each.nil) 
 refine L.callF rfl (evs.cons rfl <| evs.nil) qD qS (or_spec (xs := [cmpI x.k z.k, cmpB x.t z.t]) (by decide)) (by rintro u D1 M1 ⟨rfl, rfl, rfl⟩; exact ⟨rfl, _, qA, qF⟩) ?_
 refine A.backT rfl qD ?_
 refine A.branch (is := [12]) qk (by decide) (Each.cons rfl ?_ <| Each.nil) 
 refine L.assign rfl rfl ?_
 refine A.backT rfl qD ?_
 refine A.done qk ?_
 refine T.thenN (T.seq (T.region ?_))
 refine L.move rfl rfl ?_
 refine L.neI rfl rfl rfl ?_
 refine L.nil ?_
 refine T.thenN ?_
 refine T.cond rfl (fun h19 => ?_) (fun h19 => ?_)
 ·try simp only [dq] at h19
  refine T.seq (T.region ?_)
  refine L.move rfl rfl ?_
  refine L.assign rfl rfl ?_
  refine L.nil ?_
  refine T.thenN (T.ret ?_)
  refine T.thenR ?_
  exact T.ret1 rfl rfl ⟨by rw [or2] at h19 ⊢; rw [compT_eq, lexI_nz h19], rfl, rfl⟩ qD qF
 ·try simp only [dq] at h19
  refine T.skip (T.thenN (T.seq (T.region ?_)))
  first | refine L.field0 rfl fo24_2 rfl ?_ | refine L.field rfl fo24_2 rfl ?_
  refine L.load rfl sc22 rfl qC ?_
  first | refine L.field0 rfl fo24_2 rfl ?_ | refine L.field rfl fo24_2 rfl ?_
  refine L.load rfl sc22 rfl qC ?_
  refine L.callF rfl (evs.cons rfl <| evs.cons rfl <| evs.cons rfl <| evs.nil) qD qS (compf_spec (ks := x.ks) (ks2 := z.ks) (fun y hy => ⟨ih y hy, by have := count_mem hy; omega⟩) (by omega) rfl rfl) (by rintro u D1 M1 ⟨rfl, rfl, rfl⟩; exact ⟨rfl, _, qA, qF⟩) ?_
  refine L.assign rfl rfl ?_
  refine L.nil ?_
  refine T.thenN (T.ret ?_)
  exact T.ret1 rfl rfl ⟨by rw [or2] at h19; rw [compT_eq, lexI_z (by simpa using h19)], rfl, rfl⟩ qD qF
theorem comp_spec (x : Tr) : CompS x := Tr.ind (p := CompS) (fun x ih a len cap z a2 len2 cap2 hc => comp_step x ih a len cap z a2 len2 cap2 hc) x
set_option maxHeartbeats 400000 in
theorem same_spec {x z : Tr} {a a2 : Option Addr} {len cap len2 cap2 : Nat} (hc : x.count ≤ 1000000) : Spec Tryz.prog 31 [.agg (iRow x a len cap).toArray, .agg (iRow z a2 len2 cap2).toArray] [rtr x (eRow x a len cap), rtr z (eRow z a2 len2 cap2)] [] (fun v D' M' => v = .bool (decide (compT x z = 0)) ∧ D' = [] ∧ M' = []) := by
 refine Spec.intro (n := 9) Tryz.func31 rfl rfl (by decide) (Nat.le_of_ble_eq_true rfl) rfl (fun _ => qA) (fun _ => qA) ?_
 intro σ D M
 refine T.seq (T.region ?_)
 refine L.box rfl rfl rfl (fun b2 => ?_)
 refine L.box rfl rfl rfl (fun b3 => ?_)
 refine L.assign rfl rfl ?_
 refine L.nil ?_
 refine T.thenN (T.seq (T.region ?_))
 refine L.loadA rfl ag24 rfl qN ?_
 refine L.loadA rfl ag24 rfl qN ?_
 refine L.callF rfl (evs.cons rfl <| evs.cons rfl <| evs.nil) qD qS (comp_spec x _ _ _ z _ _ _ hc) (by rintro u D1 M1 ⟨rfl, rfl, rfl⟩; exact ⟨rfl, _, qA, qF⟩) ?_
 refine L.eqI rfl rfl rfl ?_
 refine L.assign rfl rfl ?_
 refine L.nil ?_
 refine T.thenN (T.ret ?_)
 exact T.ret1 rfl rfl ⟨rfl, rfl, rfl⟩ qD qF
end Cv
