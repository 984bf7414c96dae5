/-
  The walks: numbers, builders.
-/
import Derived.Test.YtcilkdnbbebjgaaGreatP06
import Derived.Test.YtcilkdnbbebjgaaGreatD05
import Derived.Test.YtcilkdnbbebjgaaGreatCvLe
import Derived.Test.YtcilkdnbbebjgaaGreatProg
import Derived.KernelRfl
set_option linter.unusedVariables false
set_option linter.unusedSimpArgs false
set_option linter.unusedSectionVars false
set_option maxRecDepth 10000
namespace Cv
open Go Go.Proofs

set_option maxHeartbeats 400000 in
theorem bnum_spec {n : Nat} (hn : n < 18446744073709551616) : Spec Tryz.prog 97 [.int .u64 (n : Int)] [] [] (fun v D' M' => v = S (numB n) ∧ D' = [] ∧ M' = []) := by
 refine Spec.intro (n := 20) Tryz.func97 rfl rfl (by decide) (Nat.le_of_ble_eq_true rfl) rfl (fun _ => qA) (fun _ => qA) ?_
 intro σ D M
 refine T.seq (T.region ?_)
 refine L.assign rfl rfl ?_
 refine L.nil ?_
 refine T.thenN (T.seq (T.region ?_))
 refine L.assign rfl rfl ?_
 refine L.nil ?_
 refine T.newOwn (sz := 1) (e := 5) ?_
 refine T.thenN (T.seq (T.block ?_))
 refine T.loop (fun K' D' M' μ => ∃ (m l3 c3 : Nat) (a3 : Option Addr) (acc : List UInt8), ((beB n = beB m ++ acc ∧ acc.length = l3) ∧ (m < 256 ^ (8 - l3) ∧ l3 ≤ 8)) ∧ K' = [(0, .int .u64 (m : Int)), (3, .slice a3 l3 c3)] ∧ D' = [] ∧ M' = [own 1 5 a3 l3 c3 (acc.map yr)] ∧ μ = 2 * m) (SubK.nil _) (⟨n, 0, 0, none, [], ⟨⟨by simp, rfl⟩, by simpa using hn, by omega⟩, rfl, rfl, rfl, rfl⟩) (.cons (t := 0) rfl <| .cons (t := 3) rfl <| SubK.nil _) qD qS ?_
 rintro K1 D1 M1 m1 ⟨m, l3, c3, a3, acc, ⟨⟨hbe, hal⟩, hmb, hl3⟩, rfl, rfl, rfl, rfl⟩
 refine T.norm3 qA qA qA ?_
 refine T.seq (T.seq (T.region ?_))
 refine L.move rfl rfl ?_
 refine L.gtI rfl rfl rfl ?_
 refine L.nil ?_
 refine T.thenN ?_
 refine T.cond rfl (fun h5 => ?_) (fun h5 => ?_)
 ·try simp only [dq] at h5
  refine T.skip (T.thenN (T.seq (T.block (T.region ?_))))
  refine L.move rfl rfl ?_
  refine L.convIY rfl Tryz.underlying117 Tryz.underlying5 rfl ?_
  rw [y_byte]
  refine L.buildSlice rfl bs97 (by decide) (BP.one rfl rfl rfl <| BP.doneE (out := []) rfl) (fun b10 => ?_)
  refine L.toOwn (len := 1) (sz := 1) (e := 5) (rows := [UInt8.ofNat (m % 256)].map yr) qP (by rfl) rfl (by simp) ?_
  refine L.move rfl rfl ?_
  refine L.appendR rfl Tryz.underlying97 Tryz.underlying97 el5 rfl rfl qP (rd_M qM) (by first | with_reducible exact One.yr | (intro u hu; simp at hu; simp_all)) qI qI (fun a12 c12 => ?_)
  refine L.assign rfl rfl ?_
  refine L.nil ?_
  refine T.blkN (T.thenN (T.region ?_))
  refine L.move rfl rfl ?_
  refine L.shrI rfl rfl rfl qI ?_
  rw [shr8]
  refine L.assign rfl rfl ?_
  refine L.nil ?_
  refine T.thenN ?_
  refine T.ownEq _ ((UInt8.ofNat (m % 256) :: acc).map yr) qP (by rfl) ?_
  exact T.back ⟨m / 256, 1 + l3, _, _, UInt8.ofNat (m % 256) :: acc, ⟨⟨be_step hbe (by omega), by simp [hal]; omega⟩, (be_bound hmb (by omega)).2, by have := (be_bound hmb (by omega)).1; omega⟩, rfl, rfl, rfl, rfl⟩ qI (.cons (t := 0) rfl <| .cons (t := 3) rfl <| SubK.nil _) (SubK.nil _) qD qD qF
 ·try simp only [dq] at h5
  obtain rfl : m = 0 := by omega
  refine T.exit (T.thenX (T.thenX (T.blkX (T.thenN (T.seq (T.region ?_))))))
  refine L.move rfl rfl ?_
  refine L.lenSl rfl Tryz.underlying97 rfl ?_
  refine L.convIY rfl Tryz.underlying3 Tryz.underlying5 rfl ?_
  rw [y_byte' (by omega)]
  refine L.buildSlice rfl bs97 (by decide) (BP.one rfl rfl rfl <| BP.doneE (out := []) rfl) (fun b16 => ?_)
  refine L.toOwn (len := 1) (sz := 1) (e := 5) (rows := [UInt8.ofNat l3].map yr) qP (by rfl) rfl (by simp) ?_
  refine L.move rfl rfl ?_
  refine L.appendR rfl Tryz.underlying97 Tryz.underlying97 el5 rfl rfl qP (rd_M qM) (by first | with_reducible exact One.yr | (intro u hu; simp at hu; simp_all)) qI qI (fun a18 c18 => ?_)
  refine L.ownEq _ ((numB n).map yr) qP (by rw [numB, beB_0, List.nil_append] at *; rw [hbe, hal]; rfl) ?_
  refine L.ownRsl (rows := (numB n).map yr) qP ?_
  refine L.bytesStr rfl Tryz.underlying97 Tryz.underlying5 Tryz.underlying9 rfl qM ?_
  refine L.assign rfl rfl ?_
  refine L.nil ?_
  refine T.thenN (T.ret ?_)
  exact T.ret1 rfl rfl ⟨rfl, rfl, rfl⟩ qD qF
set_option maxHeartbeats 400000 in
theorem bnums_spec {a : Option Addr} {len cap : Nat} {xs : List Int} (hl : len ≤ 1000000) (hg : ∀ k ∈ xs, k ≤ 9223372036854775807) : Spec Tryz.prog 57 [.slice a len cap] [rsl 1 a len cap (xs.map e3)] [] (fun v D' M' => v = S (xs.flatMap fun k => numB k.toNat) ∧ D' = [] ∧ M' = []) := by
 refine Spec.intro (n := 20) Tryz.func57 rfl rfl (by decide) (Nat.le_of_ble_eq_true rfl) rfl (fun _ => qA) (fun _ => qA) ?_
 intro σ D M
 refine T.rslLen2 qM (fun hxl hxc => ?_)
 rw [List.length_map] at hxl
 refine T.seq (T.region ?_)
 refine L.assign rfl rfl ?_
 refine L.nil ?_
 refine T.thenN (T.seq (T.region ?_))
 refine L.assign rfl rfl ?_
 refine L.nil ?_
 refine T.thenN (T.seq (T.seq (T.region ?_)))
 refine L.move rfl rfl ?_
 refine L.lenSl rfl Tryz.underlying171 rfl ?_
 refine L.move rfl rfl ?_
 refine L.nil ?_
 refine T.thenN (T.block ?_)
 refine T.loop (fun K' D' M' μ => ∃ (i : Nat) (acc : List UInt8), ((i ≤ len ∧ acc.length ≤ 9 * i) ∧ acc = (xs.take i).flatMap fun k => numB k.toNat) ∧ K' = [(8, .int .i64 i), (3, S acc)] ∧ D' = [] ∧ M' = [] ∧ μ = len - i) (.cons (t := 6) rfl <| .cons (t := 7) rfl <| SubK.nil _) (⟨0, [], ⟨by simp, by simp⟩, rfl, rfl, rfl, rfl⟩) (.cons (t := 8) rfl <| .cons (t := 3) rfl <| SubK.nil _) qD qS ?_
 rintro K1 D1 M1 m1 ⟨i, acc, ⟨⟨hi, hal⟩, hac⟩, rfl, rfl, rfl, rfl⟩
 refine T.norm3 qA qA qA ?_
 refine T.seq (T.region ?_)
 refine L.ltI rfl rfl rfl ?_
 refine L.nil ?_
 refine T.thenN (T.seq ?_)
 refine T.cond rfl (fun h9 => ?_) (fun h9 => ?_)
 ·try simp only [dq] at h9
  refine T.skip (T.thenN (T.seq (T.block (T.seq (T.region ?_)))))
  have hx : xs[i]? = some (gd xs i) := gd_get (by omega)
  obtain ⟨k, hk⟩ : ∃ k, k = gd xs i := ⟨_, rfl⟩
  rw [← hk] at hx
  have hkb := hg k (List.mem_of_getElem? hx)
  have hnl := numB_len (n := k.toNat) (by omega)
  refine L.idx (i := i) rfl Tryz.underlying171 sz3 rfl rfl qM (by first | rfl | omega | (simp; done)) qG (fun b10 o10 => ?_)
  refine L.load rfl sc3 rfl qC ?_
  refine L.assign rfl rfl ?_
  refine L.nil ?_
  refine T.thenN (T.region ?_)
  refine L.move rfl rfl ?_
  refine L.move rfl rfl ?_
  refine L.maxI rfl rfl rfl ?_
  rw [show max k 0 = ((k.toNat : Nat) : Int) by omega]
  refine L.convU rfl Tryz.underlying3 Tryz.underlying117 rfl qI ?_
  refine L.callF rfl (evs.cons rfl <| evs.nil) qD qS (bnum_spec (n := k.toNat) (by omega)) (by rintro u D1 M1 ⟨rfl, rfl, rfl⟩; exact ⟨rfl, _, qA, qF⟩) ?_
  refine L.addS rfl rfl rfl qI ?_
  refine L.assign rfl rfl ?_
  refine L.nil ?_
  refine T.blkN (T.thenN (T.region ?_))
  refine L.addN rfl rfl rfl (by omega) ?_
  refine L.move rfl rfl ?_
  refine L.nil ?_
  refine T.thenN ?_
  exact T.back ⟨i + 1, _, ⟨⟨by omega, by rw [List.length_append]; omega⟩, by rw [hac, ← take_snoc hx, List.flatMap_append]; simp⟩, rfl, rfl, rfl, rfl⟩ qI (.cons (t := 8) rfl <| .cons (t := 3) rfl <| SubK.nil _) (.cons (t := 6) rfl <| .cons (t := 7) rfl <| SubK.nil _) qD qD qF
 ·try simp only [dq] at h9
  refine T.exit (T.thenX (T.thenX (T.blkX (T.thenN (T.seq (T.region ?_))))))
  refine L.move rfl rfl ?_
  refine L.assign rfl rfl ?_
  refine L.nil ?_
  refine T.thenN (T.ret ?_)
  exact T.ret1 rfl rfl ⟨congrArg S (by rw [hac, List.take_of_length_le (by omega)]), rfl, rfl⟩ qD qF
theorem bnum1_spec {a : Option Addr} {cap : Nat} {k : Int} (hk : k ≤ 9223372036854775807) : Spec Tryz.prog 57 [.slice a 1 cap] [rsl 1 a 1 cap ([k].map e3)] [] (fun v D' M' => v = S (numB k.toNat) ∧ D' = [] ∧ M' = []) := by
 have := bnums_spec (a := a) (len := 1) (cap := cap) (xs := [k]) (by decide) (by simpa using hk)
 simpa using this
set_option maxHeartbeats 400000 in
theorem bstr_spec {s : List UInt8} (hs : s.length ≤ 1000000000) : Spec Tryz.prog 110 [S s] [] [] (fun v D' M' => v = S (strB s) ∧ D' = [] ∧ M' = []) := by
 refine Spec.intro (n := 9) Tryz.func110 rfl rfl (by decide) (Nat.le_of_ble_eq_true rfl) rfl (fun _ => qA) (fun _ => qA) ?_
 intro σ D M
 have hnl := numB_len (n := s.length) (by omega)
 refine T.seq (T.region ?_)
 refine L.assign rfl rfl ?_
 refine L.nil ?_
 refine T.thenN (T.seq (T.region ?_))
 refine L.move rfl rfl ?_
 refine L.lenStr rfl Tryz.underlying9 rfl ?_
 refine L.convU rfl Tryz.underlying3 Tryz.underlying117 rfl qI ?_
 refine L.callF rfl (evs.cons rfl <| evs.nil) qD qS (bnum_spec (n := s.length) (by omega)) (by rintro u D1 M1 ⟨rfl, rfl, rfl⟩; exact ⟨rfl, _, qA, qF⟩) ?_
 refine L.move rfl rfl ?_
 refine L.addS rfl rfl rfl qI ?_
 refine L.assign rfl rfl ?_
 refine L.nil ?_
 refine T.thenN (T.ret ?_)
 exact T.ret1 rfl rfl ⟨rfl, rfl, rfl⟩ qD qF
theorem nex : IsX Tryz.prog 138 Extern.AbiNoEscape.same := IsX.of Tryz.func138 qk qk qk qk
theorem bld_info : ∃ j, Tryz.prog.info? 128 = some j ∧ j.size ≠ 0 := by
 have h : (Tryz.prog.info? 128).map (·.size) = some 2 := by kernel_rfl
 obtain ⟨j, h1, h2⟩ := Option.map_eq_some_iff.1 h
 exact ⟨j, h1, by rw [h2]; decide⟩
set_option maxHeartbeats 400000 in
theorem bcc_spec {b : Nat} {p a : Option Addr} {len cap : Nat} (hp : p = none ∨ p = some ⟨b, 0, none⟩)  : Spec Tryz.prog 109 [.pointer (some ⟨b, 0, none⟩)] [] [cl b 128 [.pointer (p), .slice a len cap]] (fun v D' M' => v = .tuple #[] ∧ D' = [] ∧ M' = [cl b 128 [.pointer (some ⟨b, 0, none⟩), .slice a len cap]]) := by
 refine Spec.intro (n := 20) Tryz.func109 rfl rfl (by decide) (Nat.le_of_ble_eq_true rfl) rfl (fun _ => qA) (fun _ => qA) ?_
 intro σ D M
 obtain ⟨jB, hj1, hj2⟩ := bld_info
 refine T.seq (T.region ?_)
 refine L.move rfl rfl ?_
 refine L.nilCheck rfl rfl ?_
 first | refine L.field0 rfl fo128_0 rfl ?_ | refine L.field rfl fo128_0 rfl ?_
 refine L.load rfl sc126 rfl qC ?_
 refine L.eqlPtr rfl Tryz.underlying126 rfl rfl ?_
 refine L.nil ?_
 refine T.thenN ?_
 refine T.cond rfl (fun h6 => ?_) (fun h6 => ?_)
 ·try simp only [dq] at h6
  obtain rfl : p = none := by cases p; rfl; cases h6
  refine T.region ?_
  refine L.move rfl rfl ?_
  refine L.move rfl rfl ?_
  refine L.convToU (T := 128) rfl Tryz.underlying126 Tryz.underlying217 hj1 hj2 rfl qM (by simp) ?_
  refine L.callX (v := .pointer (some ⟨b, 0, none⟩)) nex rfl (evs.cons rfl <| evs.nil) (fun w _ => Lib.run_noEscape w _) ?_
  refine L.convFromU (T := 128) (k := 2) rfl Tryz.underlying217 Tryz.underlying126 hj1 rfl qM rfl qk ?_
  refine L.nilCheck rfl rfl ?_
  first | refine L.field0 rfl fo128_0 rfl ?_ | refine L.field rfl fo128_0 rfl ?_
  refine L.store sc126 rfl rfl rfl qU qE ?_
  refine L.nil ?_
  exact T.retN (by simp) rfl ⟨rfl, rfl, rfl⟩ qD qF
 ·try simp only [dq] at h6
  obtain rfl : p = some ⟨b, 0, none⟩ := by rcases hp with q | q; subst q; cases h6; exact q
  refine T.seq (T.region ?_)
  refine L.move rfl rfl ?_
  refine L.nilCheck rfl rfl ?_
  first | refine L.field0 rfl fo128_0 rfl ?_ | refine L.field rfl fo128_0 rfl ?_
  refine L.load rfl sc126 rfl qC ?_
  refine L.move rfl rfl ?_
  refine L.neqPtrSame rfl Tryz.underlying126 hj1 rfl rfl ?_
  refine L.nil ?_
  refine T.thenN ?_
  refine T.condF rfl rfl ?_
  refine T.skip ?_
  exact T.retN (by simp) rfl ⟨rfl, rfl, rfl⟩ qD qF
set_option maxHeartbeats 400000 in
theorem bws_spec {b : Nat} {bs s : List UInt8} (hb : bs.length + s.length ≤ 140737488355328) : Spec Tryz.prog 70 [.pointer (some ⟨b, 0, none⟩), S s] [] [bldA 128 5 b (bs)] (fun v D' M' => v = .tuple #[.int .i64 s.length, .nilIface] ∧ D' = [] ∧ M' = [bldA 128 5 b (bs ++ s)]) := by
 refine Spec.intro (n := 19) Tryz.func70 rfl rfl (by decide) (Nat.le_of_ble_eq_true rfl) rfl (fun _ => qA) (fun _ => qA) ?_
 intro σ D M
 refine T.bldOpen qP (fun p a cap hp => ?_)
 refine T.seq (T.region ?_)
 refine L.assign rfl rfl ?_
 refine L.assign rfl rfl ?_
 refine L.nil ?_
 refine T.thenN (T.seq (T.region ?_))
 refine L.move rfl rfl ?_
 refine L.call rfl (evs.cons rfl <| evs.nil) qD qS (bcc_spec hp) ?_
 rintro _ _ _ ⟨rfl, rfl, rfl⟩
 refine L.norm qA qA ?_
 refine L.nil ?_
 refine T.thenN (T.seq (T.region ?_))
 refine L.move rfl rfl ?_
 refine L.move rfl rfl ?_
 refine L.nilCheck rfl rfl ?_
 first | refine L.field0 rfl fo128_1 rfl ?_ | refine L.field rfl fo128_1 rfl ?_
 refine L.load rfl sc97 rfl qC ?_
 refine L.move rfl rfl ?_
 refine L.appendS rfl Tryz.underlying97 Tryz.underlying9 el5 rfl rfl qP qI (fun a14 c14 => ?_)
 refine L.nilCheck rfl rfl ?_
 first | refine L.field0 rfl fo128_1 rfl ?_ | refine L.field rfl fo128_1 rfl ?_
 refine L.store sc97 rfl rfl rfl qU qE ?_
 refine L.nil ?_
 refine T.ownEq _ ((bs ++ s).map yr) qP (by rw [List.map_append]) ?_
 refine T.bldMk (bs := bs ++ s) (len := bs.length + s.length) (.inr rfl) (by simp) qS ?_
 refine T.thenN (T.seq (T.region ?_))
 refine L.move rfl rfl ?_
 refine L.lenStr rfl Tryz.underlying9 rfl ?_
 refine L.assign rfl rfl ?_
 refine L.assign rfl rfl ?_
 refine L.nil ?_
 refine T.thenN (T.ret ?_)
 exact T.ret2 rfl rfl rfl ⟨rfl, rfl, rfl⟩ qD qF
set_option maxHeartbeats 400000 in
theorem bln_spec {b : Nat} {bs : List UInt8}  : Spec Tryz.prog 72 [.pointer (some ⟨b, 0, none⟩)] [] [bldA 128 5 b (bs)] (fun v D' M' => v = .int .i64 bs.length ∧ D' = [] ∧ M' = [bldA 128 5 b (bs)]) := by
 refine Spec.intro (n := 8) Tryz.func72 rfl rfl (by decide) (Nat.le_of_ble_eq_true rfl) rfl (fun _ => qA) (fun _ => qA) ?_
 intro σ D M
 refine T.bldOpen qP (fun p a cap hp => ?_)
 refine T.seq (T.region ?_)
 refine L.assign rfl rfl ?_
 refine L.nil ?_
 refine T.thenN (T.seq (T.region ?_))
 refine L.move rfl rfl ?_
 refine L.nilCheck rfl rfl ?_
 first | refine L.field0 rfl fo128_1 rfl ?_ | refine L.field rfl fo128_1 rfl ?_
 refine L.load rfl sc97 rfl qC ?_
 refine L.lenSl rfl Tryz.underlying97 rfl ?_
 refine L.assign rfl rfl ?_
 refine L.nil ?_
 refine T.bldMk (bs := bs) hp rfl qS ?_
 refine T.thenN (T.ret ?_)
 exact T.ret1 rfl rfl ⟨rfl, rfl, rfl⟩ qD qF
set_option maxHeartbeats 400000 in
theorem bst_spec {b : Nat} {bs : List UInt8} (h0 : bs ≠ []) (hb : bs.length ≤ 140737488355328) : Spec Tryz.prog 73 [.pointer (some ⟨b, 0, none⟩)] [] [bldA 128 5 b (bs)] (fun v D' M' => v = S bs ∧ D' = [] ∧ M' = []) := by
 refine Spec.intro (n := 14) Tryz.func73 rfl rfl (by decide) (Nat.le_of_ble_eq_true rfl) rfl (fun _ => qA) (fun _ => qA) ?_
 intro σ D M
 refine T.bldOpen qP (fun p a cap hp => ?_)
 have hbp := List.length_pos_iff.2 h0
 refine T.ownNe qM hbp (fun bo oo ha => ?_)
 subst ha
 refine T.ownLen qM (fun hbl hbc => ?_)
 refine T.seq (T.region ?_)
 refine L.assign rfl rfl ?_
 refine L.nil ?_
 refine T.thenN (T.seq ?_)
 refine T.regionA (clsL [1, 0, 1, 0, 0, 1, 0, 1, 0, 1, 2, 1]) qk ?_
 refine A.takeP (i := 0) rfl rfl rfl rfl qk qk qk rfl qD ?_
 refine L.move rfl rfl ?_
 refine A.took ?_
 refine A.takeP (i := 5) rfl rfl rfl rfl qk qk qk rfl qD ?_
 refine L.move rfl rfl ?_
 refine A.took ?_
 refine A.nilCheck (i := 1) rfl rfl qk qk qk qk rfl qD qF rfl ?_
 refine A.takeP (i := 2) rfl rfl rfl rfl qk qk qk rfl qD ?_
 first | refine L.field0 rfl fo128_1 rfl ?_ | refine L.field rfl fo128_1 rfl ?_
 refine A.took ?_
 refine A.take (i := 3) rfl rfl rfl rfl qk qk qk qk rfl qD qF ?_
 refine L.load rfl sc97 rfl qC ?_
 refine A.took ?_
 refine A.nilCheck (i := 6) rfl rfl qk qk qk qk rfl qD qF rfl ?_
 refine A.takeP (i := 7) rfl rfl rfl rfl qk qk qk rfl qD ?_
 first | refine L.field0 rfl fo128_1 rfl ?_ | refine L.field rfl fo128_1 rfl ?_
 refine A.took ?_
 refine A.take (i := 8) rfl rfl rfl rfl qk qk qk qk rfl qD qF ?_
 refine L.load rfl sc97 rfl qC ?_
 refine A.took ?_
 refine A.takeP (i := 9) rfl rfl rfl rfl qk qk qk rfl qD ?_
 refine L.lenSl rfl Tryz.underlying97 rfl ?_
 refine A.took ?_
 refine A.branch (is := [4]) qk (by decide) (Each.cons rfl ?_ <| Each.nil) 
 refine L.sliceData rfl (by omega) rfl ?_
 refine A.back rfl qD qF ?_
 refine A.branch (is := [10]) qk (by decide) (Each.cons rfl ?_ <| Each.nil) 
 refine L.unsafeStr (l := bs) rfl Tryz.underlying188 qk rfl rfl h0 (by omega) qP ?_
 refine A.backT rfl qD ?_
 refine A.takeP (i := 11) rfl rfl rfl rfl qk qk qk rfl qD ?_
 refine L.assign rfl rfl ?_
 refine A.took ?_
 refine A.done qk ?_
 refine T.thenN (T.ret ?_)
 exact T.ret1 rfl rfl ⟨rfl, rfl, rfl⟩ qD qF
end Cv
