/-
  The walks: sorting names: insertion, heaps.
-/
import Derived.Test.YtfkpgkgjamaoaaaR21
import Derived.Test.YtfkpgkgjamaoaaaCvLg
import Derived.Test.YtfkpgkgjamaoaaaProg
import Derived.KernelRfl
set_option linter.unusedVariables false
set_option linter.unusedSimpArgs false
set_option linter.unusedSectionVars false
set_option maxRecDepth 10000
namespace Cv
open Go Go.Proofs
theorem sc99 : Sc Try.prog 99 := fun w => ⟨by kernel_rfl, by kernel_rfl⟩
theorem sz28 : Sz Try.prog 28 32 := fun w => by kernel_rfl
theorem ze3 : Ze Try.prog 3 [Value.int .i64 0] := ⟨_, rfl, zv3⟩
def lenTab : List UInt8 := [0, 1, 2, 2, 3, 3, 3, 3, 4, 4, 4, 4, 4, 4, 4, 4, 5, 5, 5, 5, 5, 5, 5, 5, 5, 5, 5, 5, 5, 5, 5, 5, 6, 6, 6, 6, 6, 6, 6, 6, 6, 6, 6, 6, 6, 6, 6, 6, 6, 6, 6, 6, 6, 6, 6, 6, 6, 6, 6, 6, 6, 6, 6, 6, 7, 7, 7, 7, 7, 7, 7, 7, 7, 7, 7, 7, 7, 7, 7, 7, 7, 7, 7, 7, 7, 7, 7, 7, 7, 7, 7, 7, 7, 7, 7, 7, 7, 7, 7, 7, 7, 7, 7, 7, 7, 7, 7, 7, 7, 7, 7, 7, 7, 7, 7, 7, 7, 7, 7, 7, 7, 7, 7, 7, 7, 7, 7, 7, 8, 8, 8, 8, 8, 8, 8, 8, 8, 8, 8, 8, 8, 8, 8, 8, 8, 8, 8, 8, 8, 8, 8, 8, 8, 8, 8, 8, 8, 8, 8, 8, 8, 8, 8, 8, 8, 8, 8, 8, 8, 8, 8, 8, 8, 8, 8, 8, 8, 8, 8, 8, 8, 8, 8, 8, 8, 8, 8, 8, 8, 8, 8, 8, 8, 8, 8, 8, 8, 8, 8, 8, 8, 8, 8, 8, 8, 8, 8, 8, 8, 8, 8, 8, 8, 8, 8, 8, 8, 8, 8, 8, 8, 8, 8, 8, 8, 8, 8, 8, 8, 8, 8, 8, 8, 8, 8, 8, 8, 8, 8, 8, 8, 8, 8, 8, 8, 8, 8, 8, 8, 8, 8, 8, 8, 8, 8, 8]
theorem lenTab_ok : ∀ m : Fin 256, BitsL m.1 (gd lenTab m.1).toNat ∧ (gd lenTab m.1).toNat ≤ 8 := by
  have : ∀ m : Fin 256, (m.1 < 2 ^ (gd lenTab m.1).toNat ∧ (m.1 = 0 ∨ 2 ^ (gd lenTab m.1).toNat ≤ 2 * m.1)) ∧ (gd lenTab m.1).toNat ≤ 8 := by decide +kernel
  exact fun m => ⟨⟨(this m).1.1, (this m).1.2⟩, (this m).2⟩
theorem fdiv256 (n : Nat) : Int.fdiv (n : Int) (2 ^ (min (8 : Int).toNat IntKind.u64.bits)) = ((n / 256 : Nat) : Int) := by
  show Int.fdiv (n : Int) 256 = _
  rw [Int.fdiv_eq_ediv_of_nonneg _ (by omega)]; omega
theorem u8_nat {m : Nat} (h : m < 256) : (UInt8.ofNat m).toNat = m := by simp; omega
theorem Lconv8 {z : Int} {m : Nat} (h : z = (m : Int)) (hm : m < 256) : (.int .u8 (IntKind.u8.wrap z) : Value) = Y (UInt8.ofNat m) := by
  subst h
  show Value.int .u8 _ = Value.int .u8 _
  rw [wrap_u8, show ((m : Int) % 256).toNat = m by omega]
set_option maxHeartbeats 400000 in
theorem len64w_spec {n : Nat} (hn : n < 65536) : Spec Try.prog 52 [.int .u64 (n : Int)] [] [] (fun v D' M' => ∃ (k : Nat), v = .int .i64 (k : Int) ∧ (BitsL n k) ∧ (k ≤ 16) ∧ D' = [] ∧ M' = []) := by
  refine Spec.intro (n := 25) Try.func52 rfl rfl (by decide) (Nat.le_of_ble_eq_true rfl) rfl (fun _ => qA) (fun _ => qA) ?_
  intro σ D M
  refine T.seq ?_
  refine T.region ?_
  refine L.assign rfl rfl ?_
  refine L.nil ?_
  refine T.thenN ?_
  refine T.seq ?_
  refine T.seq ?_
  refine T.region ?_
  refine L.move rfl rfl ?_
  refine L.geI rfl rfl rfl ?_
  refine L.nil ?_
  refine T.thenN ?_
  refine T.condF rfl (decide_eq_false (by omega)) ?_
  refine T.skip ?_
  refine T.thenN ?_
  refine T.seq ?_
  refine T.seq ?_
  refine T.region ?_
  refine L.move rfl rfl ?_
  refine L.geI rfl rfl rfl ?_
  refine L.nil ?_
  refine T.thenN ?_
  refine T.condF rfl (decide_eq_false (by omega)) ?_
  refine T.skip ?_
  refine T.thenN ?_
  refine T.seq ?_
  refine T.seq ?_
  refine T.region ?_
  refine L.move rfl rfl ?_
  refine L.geI rfl rfl rfl ?_
  refine L.nil ?_
  refine T.thenN ?_
  refine T.cutC (fun K' D' M' => ∃ (z0 a0 : Int), (∃ m c : Nat, m < 256 ∧ z0 = (m : Int) ∧ a0 = (c : Int) ∧ c ≤ 8 ∧ ∀ k, BitsL m k → BitsL n (c + k)) ∧ K' = [(0, .int .u64 z0), (2, .int .i64 a0)] ∧ D' = [] ∧ M' = []) (M0 := []) (SubK.nil _) qS ?_ ?_
  · skip
    refine T.cond rfl (fun h14 => ?_) (fun h14 => ?_)
    · try simp only [decide_eq_true_eq, decide_eq_false_iff_not, Bool.not_eq_true', Bool.not_eq_false', Bool.and_eq_true, Bool.or_eq_true] at h14
      refine T.seq ?_
      refine T.region ?_
      refine L.move rfl rfl ?_
      refine L.shrI rfl rfl rfl qI ?_
      refine L.assign rfl rfl ?_
      refine L.nil ?_
      refine T.thenN ?_
      refine T.region ?_
      refine L.move rfl rfl ?_
      refine L.addN rfl rfl rfl (by omega) ?_
      refine L.assign rfl rfl ?_
      refine L.nil ?_
      refine T.thenN ?_
      exact T.toJoin ⟨_, _, ⟨n / 256, 8, by omega, fdiv256 n, rfl, by omega, fun k h => h.up (by omega)⟩, rfl, rfl, rfl⟩ (.cons (t := 0) rfl <| .cons (t := 2) rfl <| SubK.nil _) (SubK.nil _) qD qD qF
    · try simp only [decide_eq_true_eq, decide_eq_false_iff_not, Bool.not_eq_true', Bool.not_eq_false', Bool.and_eq_true, Bool.or_eq_true] at h14
      refine T.skip ?_
      refine T.thenN ?_
      exact T.toJoin ⟨_, _, ⟨n, 0, by omega, rfl, rfl, by omega, fun k h => by rw [Nat.zero_add]; exact h⟩, rfl, rfl, rfl⟩ (.cons (t := 0) rfl <| .cons (t := 2) rfl <| SubK.nil _) (SubK.nil _) qD qD qF
  rintro _ _ _ ⟨z0, a0, hz0, rfl, rfl, rfl⟩
  refine T.norm3 qA qA qA ?_
  refine T.thenN ?_
  refine T.seq ?_
  obtain ⟨m, c, hm, hmz, hac, hc8, hmk⟩ := hz0
  subst hac
  obtain ⟨hT1, hT2⟩ := lenTab_ok ⟨m, hm⟩
  have hgt : lenTab[m]? = some (gd lenTab m) := gd_get (Nat.lt_of_lt_of_eq hm rfl)
  have h256 := (gd lenTab m).toNat_lt
  have h9 : (gd lenTab m).toNat ≤ 8 := hT2
  refine T.region ?_
  refine L.move rfl rfl ?_
  refine L.move rfl rfl ?_
  refine L.convI rfl Try.underlying93 Try.underlying5 rfl ?_
  refine L.known (t := 21) (u := Y (UInt8.ofNat m)) rfl (Lconv8 (by omega) hm) ?_
  refine L.indexS (i := (UInt8.ofNat m).toNat) rfl Try.underlying9 rfl rfl (by first | rfl | omega | (simp; done)) (show lenTab[(UInt8.ofNat m).toNat]? = some (gd lenTab m) from by rw [u8_nat hm]; exact hgt) ?_
  refine L.convN rfl Try.underlying5 Try.underlying3 rfl qI ?_
  refine L.addN rfl rfl rfl (by omega) ?_
  refine L.known (t := 24) (u := .int .i64 ((c + (gd lenTab m).toNat : Nat) : Int)) rfl (congrArg (Value.int .i64) (by omega)) ?_
  refine L.assign rfl rfl ?_
  refine L.nil ?_
  refine T.thenN ?_
  refine T.ret ?_
  exact T.ret1 rfl rfl ⟨_, rfl, hmk _ hT1, by omega, rfl, rfl⟩ qD qF
set_option maxHeartbeats 400000 in
theorem lenw_spec {n : Nat} (hn : n < 65536) : Spec Try.prog 39 [.int .u64 (n : Int)] [] [] (fun v D' M' => ∃ (k : Nat), v = .int .i64 (k : Int) ∧ (BitsL n k) ∧ (k ≤ 16) ∧ D' = [] ∧ M' = []) := by
  refine Spec.intro (n := 8) Try.func39 rfl rfl (by decide) (Nat.le_of_ble_eq_true rfl) rfl (fun _ => qA) (fun _ => qA) ?_
  intro σ D M
  refine T.seq ?_
  refine T.region ?_
  refine L.assign rfl rfl ?_
  refine L.nil ?_
  refine T.thenN ?_
  refine T.seq ?_
  refine T.condF rfl rfl ?_
  refine T.skip ?_
  refine T.thenN ?_
  refine T.seq ?_
  refine T.region ?_
  refine L.move rfl rfl ?_
  refine L.call rfl (evs.cons rfl <| evs.nil) qD qS (len64w_spec hn) ?_
  rintro _ _ _ ⟨k, rfl, hk, hk16, rfl, rfl⟩
  refine L.norm qA qA ?_
  refine L.assign rfl rfl ?_
  refine L.nil ?_
  refine T.thenN ?_
  refine T.ret ?_
  exact T.ret1 rfl rfl ⟨k, rfl, hk, hk16, rfl, rfl⟩ qD qF
set_option maxHeartbeats 400000 in
theorem npow_spec {n : Nat} (hn : n < 65536) : Spec Try.prog 62 [.int .i64 (n : Int)] [] [] (fun v D' M' => ∃ (k : Nat), v = .int .u64 ((2 ^ k : Nat) : Int) ∧ (BitsL n k) ∧ (k ≤ 16) ∧ D' = [] ∧ M' = []) := by
  refine Spec.intro (n := 7) Try.func62 rfl rfl (by decide) (Nat.le_of_ble_eq_true rfl) rfl (fun _ => qA) (fun _ => qA) ?_
  intro σ D M
  refine T.seq ?_
  refine T.region ?_
  refine L.assign rfl rfl ?_
  refine L.nil ?_
  refine T.thenN ?_
  refine T.seq ?_
  refine T.region ?_
  refine L.move rfl rfl ?_
  refine L.convU rfl Try.underlying3 Try.underlying80 rfl qI ?_
  refine L.call rfl (evs.cons rfl <| evs.nil) qD qS (lenw_spec hn) ?_
  rintro _ _ _ ⟨k, rfl, hk, hk16, rfl, rfl⟩
  refine L.norm qA qA ?_
  refine L.shlI rfl rfl rfl qI ?_
  refine L.known (t := 6) (u := .int .u64 ((2 ^ k : Nat) : Int)) rfl (congrArg (Value.int .u64) (shl1 (by omega))) ?_
  refine L.assign rfl rfl ?_
  refine L.nil ?_
  refine T.thenN ?_
  refine T.ret ?_
  exact T.ret1 rfl rfl ⟨k, rfl, hk, hk16, rfl, rfl⟩ qD qF
set_option maxHeartbeats 400000 in
theorem xnext_spec {b : Nat} {z : Int}  : Spec Try.prog 63 [.pointer (some ⟨b, 0, none⟩)] [] [cl b 99 [.int .u64 z]] (fun v D' M' => ∃ (y : Int), v = .int .u64 y ∧ D' = [] ∧ M' = [cl b 99 [.int .u64 y]]) := by
  refine Spec.intro (n := 33) Try.func63 rfl rfl (by decide) (Nat.le_of_ble_eq_true rfl) rfl (fun _ => qA) (fun _ => qA) ?_
  intro σ D M
  refine T.seq ?_
  refine T.region ?_
  refine L.assign rfl rfl ?_
  refine L.nil ?_
  refine T.thenN ?_
  refine T.seq ?_
  refine T.regionA (clsL [1, 0, 0, 1, 0, 0, 1, 1, 0, 2]) (by kernel_rfl) ?_
  refine A.takeP (i := 0) rfl rfl rfl rfl (by kernel_rfl) (by kernel_rfl) (by kernel_rfl) rfl qD ?_
  refine L.move rfl rfl ?_
  refine A.took ?_
  refine A.takeP (i := 3) rfl rfl rfl rfl (by kernel_rfl) (by kernel_rfl) (by kernel_rfl) rfl qD ?_
  refine L.move rfl rfl ?_
  refine A.took ?_
  refine A.nilCheck (i := 1) rfl rfl (by kernel_rfl) (by kernel_rfl) (by kernel_rfl) (by kernel_rfl) rfl qD qF rfl ?_
  refine A.take (i := 2) rfl rfl rfl rfl (by kernel_rfl) (by kernel_rfl) (by kernel_rfl) (by kernel_rfl) rfl qD qF ?_
  refine L.load rfl sc99 rfl qC ?_
  refine A.took ?_
  refine A.nilCheck (i := 4) rfl rfl (by kernel_rfl) (by kernel_rfl) (by kernel_rfl) (by kernel_rfl) rfl qD qF rfl ?_
  refine A.take (i := 5) rfl rfl rfl rfl (by kernel_rfl) (by kernel_rfl) (by kernel_rfl) (by kernel_rfl) rfl qD qF ?_
  refine L.load rfl sc99 rfl qC ?_
  refine A.took ?_
  refine A.takeP (i := 6) rfl rfl rfl rfl (by kernel_rfl) (by kernel_rfl) (by kernel_rfl) rfl qD ?_
  refine L.shlI rfl rfl rfl qI ?_
  refine A.took ?_
  refine A.takeP (i := 7) rfl rfl rfl rfl (by kernel_rfl) (by kernel_rfl) (by kernel_rfl) rfl qD ?_
  refine L.xorI rfl rfl rfl ?_
  refine A.took ?_
  refine A.nilCheck (i := 8) rfl rfl (by kernel_rfl) (by kernel_rfl) (by kernel_rfl) (by kernel_rfl) rfl qD qF rfl ?_
  refine A.branch (is := [9]) (by kernel_rfl) (by decide) (Each.cons rfl ?_ <| Each.nil) 
  refine L.store sc99 rfl rfl rfl qU qE ?_
  refine A.backT rfl qD ?_
  refine A.done (by kernel_rfl) ?_
  refine T.thenN ?_
  refine T.seq ?_
  refine T.regionA (clsL [1, 0, 0, 1, 0, 0, 1, 1, 0, 2]) (by kernel_rfl) ?_
  refine A.takeP (i := 0) rfl rfl rfl rfl (by kernel_rfl) (by kernel_rfl) (by kernel_rfl) rfl qD ?_
  refine L.move rfl rfl ?_
  refine A.took ?_
  refine A.takeP (i := 3) rfl rfl rfl rfl (by kernel_rfl) (by kernel_rfl) (by kernel_rfl) rfl qD ?_
  refine L.move rfl rfl ?_
  refine A.took ?_
  refine A.nilCheck (i := 1) rfl rfl (by kernel_rfl) (by kernel_rfl) (by kernel_rfl) (by kernel_rfl) rfl qD qF rfl ?_
  refine A.take (i := 2) rfl rfl rfl rfl (by kernel_rfl) (by kernel_rfl) (by kernel_rfl) (by kernel_rfl) rfl qD qF ?_
  refine L.load rfl sc99 rfl qC ?_
  refine A.took ?_
  refine A.nilCheck (i := 4) rfl rfl (by kernel_rfl) (by kernel_rfl) (by kernel_rfl) (by kernel_rfl) rfl qD qF rfl ?_
  refine A.take (i := 5) rfl rfl rfl rfl (by kernel_rfl) (by kernel_rfl) (by kernel_rfl) (by kernel_rfl) rfl qD qF ?_
  refine L.load rfl sc99 rfl qC ?_
  refine A.took ?_
  refine A.takeP (i := 6) rfl rfl rfl rfl (by kernel_rfl) (by kernel_rfl) (by kernel_rfl) rfl qD ?_
  refine L.shrI rfl rfl rfl qI ?_
  refine A.took ?_
  refine A.takeP (i := 7) rfl rfl rfl rfl (by kernel_rfl) (by kernel_rfl) (by kernel_rfl) rfl qD ?_
  refine L.xorI rfl rfl rfl ?_
  refine A.took ?_
  refine A.nilCheck (i := 8) rfl rfl (by kernel_rfl) (by kernel_rfl) (by kernel_rfl) (by kernel_rfl) rfl qD qF rfl ?_
  refine A.branch (is := [9]) (by kernel_rfl) (by decide) (Each.cons rfl ?_ <| Each.nil) 
  refine L.store sc99 rfl rfl rfl qU qE ?_
  refine A.backT rfl qD ?_
  refine A.done (by kernel_rfl) ?_
  refine T.thenN ?_
  refine T.seq ?_
  refine T.regionA (clsL [1, 0, 0, 1, 0, 0, 1, 1, 0, 2]) (by kernel_rfl) ?_
  refine A.takeP (i := 0) rfl rfl rfl rfl (by kernel_rfl) (by kernel_rfl) (by kernel_rfl) rfl qD ?_
  refine L.move rfl rfl ?_
  refine A.took ?_
  refine A.takeP (i := 3) rfl rfl rfl rfl (by kernel_rfl) (by kernel_rfl) (by kernel_rfl) rfl qD ?_
  refine L.move rfl rfl ?_
  refine A.took ?_
  refine A.nilCheck (i := 1) rfl rfl (by kernel_rfl) (by kernel_rfl) (by kernel_rfl) (by kernel_rfl) rfl qD qF rfl ?_
  refine A.take (i := 2) rfl rfl rfl rfl (by kernel_rfl) (by kernel_rfl) (by kernel_rfl) (by kernel_rfl) rfl qD qF ?_
  refine L.load rfl sc99 rfl qC ?_
  refine A.took ?_
  refine A.nilCheck (i := 4) rfl rfl (by kernel_rfl) (by kernel_rfl) (by kernel_rfl) (by kernel_rfl) rfl qD qF rfl ?_
  refine A.take (i := 5) rfl rfl rfl rfl (by kernel_rfl) (by kernel_rfl) (by kernel_rfl) (by kernel_rfl) rfl qD qF ?_
  refine L.load rfl sc99 rfl qC ?_
  refine A.took ?_
  refine A.takeP (i := 6) rfl rfl rfl rfl (by kernel_rfl) (by kernel_rfl) (by kernel_rfl) rfl qD ?_
  refine L.shlI rfl rfl rfl qI ?_
  refine A.took ?_
  refine A.takeP (i := 7) rfl rfl rfl rfl (by kernel_rfl) (by kernel_rfl) (by kernel_rfl) rfl qD ?_
  refine L.xorI rfl rfl rfl ?_
  refine A.took ?_
  refine A.nilCheck (i := 8) rfl rfl (by kernel_rfl) (by kernel_rfl) (by kernel_rfl) (by kernel_rfl) rfl qD qF rfl ?_
  refine A.branch (is := [9]) (by kernel_rfl) (by decide) (Each.cons rfl ?_ <| Each.nil) 
  refine L.store sc99 rfl rfl rfl qU qE ?_
  refine A.backT rfl qD ?_
  refine A.done (by kernel_rfl) ?_
  refine T.thenN ?_
  refine T.seq ?_
  refine T.region ?_
  refine L.move rfl rfl ?_
  refine L.nilCheck rfl rfl ?_
  refine L.load rfl sc99 rfl qC ?_
  refine L.assign rfl rfl ?_
  refine L.nil ?_
  refine T.thenN ?_
  refine T.ret ?_
  exact T.ret1 rfl rfl ⟨_, rfl, rfl, rfl⟩ qD qF
set_option maxHeartbeats 400000 in
theorem ord2_spec {g pb po len cap : Nat} {cf : ID32 → ID32 → Int} {xs : List ID32} (hO : SWO cf) (hI : ∀ x : ID32, ¬ cf x x < 0) (hc : ∀ x y : ID32, Spec Try.prog g [.agg (iC x).toArray, .agg (iC y).toArray] [] [] (fun u D' M' => u = .int .i64 (cf x y) ∧ D' = [] ∧ M' = [])) {bs p q : Nat} {s : Int} (hp : p < len) (hq : q < len) (hs : 0 ≤ s ∧ s ≤ 1000) (hb : len ≤ 1000000) : Spec Try.prog 71 [.slice (some ⟨pb, po, none⟩) len cap, .int .i64 (p : Int), .int .i64 (q : Int), .pointer (some ⟨bs, 0, none⟩), fnV g []] [] [own 32 28 (some ⟨pb, po, none⟩) len cap ((xs).map iC), cl bs 3 [.int .i64 s]] (fun v D' M' => ∃ (p2 q2 : Nat) (s2 : Int), v = .tuple #[.int .i64 (p2 : Int), .int .i64 (q2 : Int)] ∧ ((p2 = p ∧ q2 = q) ∨ (p2 = q ∧ q2 = p)) ∧ (s ≤ s2 ∧ s2 ≤ s + 1) ∧ D' = [] ∧ M' = [own 32 28 (some ⟨pb, po, none⟩) len cap ((xs).map iC), cl bs 3 [.int .i64 s2]]) := by
  refine Spec.intro (n := 32) Try.func71 rfl rfl (by decide) (Nat.le_of_ble_eq_true rfl) rfl (fun _ => qA) (fun _ => qA) ?_
  intro σ D M
  refine T.ownLen qM (fun hl hcc => ?_)
  rw [List.length_map] at hl
  refine T.seq ?_
  refine T.region ?_
  refine L.assign rfl rfl ?_
  refine L.assign rfl rfl ?_
  refine L.nil ?_
  refine T.thenN ?_
  refine T.seq ?_
  refine T.seq ?_
  have hg0 : xs[p]? = some (gd xs (p)) := gd_get (by omega)
  have hw0 := iC_len (gd xs (p))
  have hg1 : xs[q]? = some (gd xs (q)) := gd_get (by omega)
  have hw1 := iC_len (gd xs (q))
  refine T.regionQ (by kernel_rfl) (by kernel_rfl) ?_
  refine L.move rfl rfl ?_
  refine L.move rfl rfl ?_
  refine L.move rfl rfl ?_
  refine L.idxG (i := q) rfl Try.underlying34 sz28 rfl rfl (by first | rfl | omega | (simp; done)) qI ?_
  refine L.loadA rfl ag28 rfl (CellsN.ofOwn qM (map_get hg1) hw1) ?_
  refine L.move rfl rfl ?_
  refine L.move rfl rfl ?_
  refine L.idxG (i := p) rfl Try.underlying34 sz28 rfl rfl (by first | rfl | omega | (simp; done)) qI ?_
  refine L.loadA rfl ag28 rfl (CellsN.ofOwn qM (map_get hg0) hw0) ?_
  refine L.callVF rfl rfl (evs.cons rfl <| evs.cons rfl <| evs.nil) qD qS (hc (gd xs q) (gd xs p)) (by rintro u D1 M1 ⟨rfl, rfl, rfl⟩; exact ⟨rfl, _, qA, qF⟩) ?_
  refine L.ltI rfl rfl rfl ?_
  refine L.nilQ ?_
  refine T.thenN ?_
  refine T.cond rfl (fun h22 => ?_) (fun h22 => ?_)
  · try simp only [decide_eq_true_eq, decide_eq_false_iff_not, Bool.not_eq_true', Bool.not_eq_false', Bool.and_eq_true, Bool.or_eq_true] at h22
    refine T.seq ?_
    refine T.region ?_
    refine L.move rfl rfl ?_
    refine L.nilCheck rfl rfl ?_
    refine L.load rfl sc3 rfl qC ?_
    refine L.addN rfl rfl rfl (by omega) ?_
    refine L.nilCheck rfl rfl ?_
    refine L.store sc3 rfl rfl rfl qU qE ?_
    refine L.nil ?_
    refine T.thenN ?_
    refine T.seq ?_
    refine T.region ?_
    refine L.move rfl rfl ?_
    refine L.move rfl rfl ?_
    refine L.assign rfl rfl ?_
    refine L.assign rfl rfl ?_
    refine L.nil ?_
    refine T.thenN ?_
    refine T.ret ?_
    refine T.thenR ?_
    exact T.ret2 rfl rfl rfl ⟨q, p, s + 1, rfl, .inr ⟨rfl, rfl⟩, by omega, rfl, rfl⟩ qD qF
  · try simp only [decide_eq_true_eq, decide_eq_false_iff_not, Bool.not_eq_true', Bool.not_eq_false', Bool.and_eq_true, Bool.or_eq_true] at h22
    refine T.skip ?_
    refine T.thenN ?_
    refine T.seq ?_
    refine T.region ?_
    refine L.move rfl rfl ?_
    refine L.move rfl rfl ?_
    refine L.assign rfl rfl ?_
    refine L.assign rfl rfl ?_
    refine L.nil ?_
    refine T.thenN ?_
    refine T.ret ?_
    exact T.ret2 rfl rfl rfl ⟨p, q, s, rfl, .inl ⟨rfl, rfl⟩, by omega, rfl, rfl⟩ qD qF
set_option maxHeartbeats 400000 in
theorem med_spec {g pb po len cap : Nat} {cf : ID32 → ID32 → Int} {xs : List ID32} (hO : SWO cf) (hI : ∀ x : ID32, ¬ cf x x < 0) (hc : ∀ x y : ID32, Spec Try.prog g [.agg (iC x).toArray, .agg (iC y).toArray] [] [] (fun u D' M' => u = .int .i64 (cf x y) ∧ D' = [] ∧ M' = [])) {bs p q r : Nat} {s : Int} (hp : p < len) (hq : q < len) (hr : r < len) (hs : 0 ≤ s ∧ s ≤ 100) (hb : len ≤ 1000000) : Spec Try.prog 69 [.slice (some ⟨pb, po, none⟩) len cap, .int .i64 (p : Int), .int .i64 (q : Int), .int .i64 (r : Int), .pointer (some ⟨bs, 0, none⟩), fnV g []] [] [own 32 28 (some ⟨pb, po, none⟩) len cap ((xs).map iC), cl bs 3 [.int .i64 s]] (fun v D' M' => ∃ (x : Nat) (s2 : Int), v = .int .i64 (x : Int) ∧ (x = p ∨ x = q ∨ x = r) ∧ (s ≤ s2 ∧ s2 ≤ s + 3) ∧ D' = [] ∧ M' = [own 32 28 (some ⟨pb, po, none⟩) len cap ((xs).map iC), cl bs 3 [.int .i64 s2]]) := by
  refine Spec.intro (n := 41) Try.func69 rfl rfl (by decide) (Nat.le_of_ble_eq_true rfl) rfl (fun _ => qA) (fun _ => qA) ?_
  intro σ D M
  refine T.seq ?_
  refine T.region ?_
  refine L.assign rfl rfl ?_
  refine L.nil ?_
  refine T.thenN ?_
  refine T.seq ?_
  refine T.region ?_
  refine L.move rfl rfl ?_
  refine L.move rfl rfl ?_
  refine L.move rfl rfl ?_
  refine L.move rfl rfl ?_
  refine L.move rfl rfl ?_
  refine L.call rfl (evs.cons rfl <| evs.cons rfl <| evs.cons rfl <| evs.cons rfl <| evs.cons rfl <| evs.nil) qD qS (ord2_spec hO hI hc (p := p) (q := q) (s := s) (by omega) (by omega) (by omega) hb) ?_
  rintro _ _ _ ⟨p1, q1, s1, rfl, hpq1, hs1, rfl, rfl⟩
  refine L.norm qA qA ?_
  refine L.move rfl rfl ?_
  refine L.extract rfl rfl rfl ?_
  refine L.extract rfl rfl rfl ?_
  refine L.assign rfl rfl ?_
  refine L.assign rfl rfl ?_
  refine L.nil ?_
  refine T.thenN ?_
  refine T.seq ?_
  refine T.region ?_
  refine L.move rfl rfl ?_
  refine L.move rfl rfl ?_
  refine L.move rfl rfl ?_
  refine L.move rfl rfl ?_
  refine L.move rfl rfl ?_
  refine L.call rfl (evs.cons rfl <| evs.cons rfl <| evs.cons rfl <| evs.cons rfl <| evs.cons rfl <| evs.nil) qD qS (ord2_spec hO hI hc (p := q1) (q := r) (s := s1) (by omega) (by omega) (by omega) hb) ?_
  rintro _ _ _ ⟨p2, q2, s2, rfl, hpq2, hs2, rfl, rfl⟩
  refine L.norm qA qA ?_
  refine L.move rfl rfl ?_
  refine L.extract rfl rfl rfl ?_
  refine L.extract rfl rfl rfl ?_
  refine L.assign rfl rfl ?_
  refine L.assign rfl rfl ?_
  refine L.nil ?_
  refine T.thenN ?_
  refine T.seq ?_
  refine T.region ?_
  refine L.move rfl rfl ?_
  refine L.move rfl rfl ?_
  refine L.move rfl rfl ?_
  refine L.move rfl rfl ?_
  refine L.move rfl rfl ?_
  refine L.call rfl (evs.cons rfl <| evs.cons rfl <| evs.cons rfl <| evs.cons rfl <| evs.cons rfl <| evs.nil) qD qS (ord2_spec hO hI hc (p := p1) (q := p2) (s := s2) (by omega) (by omega) (by omega) hb) ?_
  rintro _ _ _ ⟨p3, q3, s3, rfl, hpq3, hs3, rfl, rfl⟩
  refine L.norm qA qA ?_
  refine L.move rfl rfl ?_
  refine L.extract rfl rfl rfl ?_
  refine L.extract rfl rfl rfl ?_
  refine L.assign rfl rfl ?_
  refine L.assign rfl rfl ?_
  refine L.nil ?_
  refine T.thenN ?_
  refine T.seq ?_
  refine T.region ?_
  refine L.move rfl rfl ?_
  refine L.assign rfl rfl ?_
  refine L.nil ?_
  refine T.thenN ?_
  refine T.ret ?_
  exact T.ret1 rfl rfl ⟨q3, s3, rfl, by omega, by omega, rfl, rfl⟩ qD qF
set_option maxHeartbeats 400000 in
theorem meda_spec {g pb po len cap : Nat} {cf : ID32 → ID32 → Int} {xs : List ID32} (hO : SWO cf) (hI : ∀ x : ID32, ¬ cf x x < 0) (hc : ∀ x y : ID32, Spec Try.prog g [.agg (iC x).toArray, .agg (iC y).toArray] [] [] (fun u D' M' => u = .int .i64 (cf x y) ∧ D' = [] ∧ M' = [])) {bs p : Nat} {s : Int} (hp : 1 ≤ p ∧ p + 1 < len) (hs : 0 ≤ s ∧ s ≤ 100) (hb : len ≤ 1000000) : Spec Try.prog 68 [.slice (some ⟨pb, po, none⟩) len cap, .int .i64 (p : Int), .pointer (some ⟨bs, 0, none⟩), fnV g []] [] [own 32 28 (some ⟨pb, po, none⟩) len cap ((xs).map iC), cl bs 3 [.int .i64 s]] (fun v D' M' => ∃ (x : Nat) (s2 : Int), v = .int .i64 (x : Int) ∧ (p ≤ x + 1 ∧ x ≤ p + 1) ∧ (s ≤ s2 ∧ s2 ≤ s + 3) ∧ D' = [] ∧ M' = [own 32 28 (some ⟨pb, po, none⟩) len cap ((xs).map iC), cl bs 3 [.int .i64 s2]]) := by
  refine Spec.intro (n := 18) Try.func68 rfl rfl (by decide) (Nat.le_of_ble_eq_true rfl) rfl (fun _ => qA) (fun _ => qA) ?_
  intro σ D M
  refine T.seq ?_
  refine T.region ?_
  refine L.assign rfl rfl ?_
  refine L.nil ?_
  refine T.thenN ?_
  refine T.seq ?_
  refine T.region ?_
  refine L.move rfl rfl ?_
  refine L.move rfl rfl ?_
  refine L.subN rfl rfl rfl (by omega) ?_
  refine L.known (t := 11) (u := .int .i64 ((p - 1 : Nat) : Int)) rfl (congrArg (Value.int .i64) (by omega)) ?_
  refine L.move rfl rfl ?_
  refine L.move rfl rfl ?_
  refine L.addN rfl rfl rfl (by omega) ?_
  refine L.known (t := 14) (u := .int .i64 ((p + 1 : Nat) : Int)) rfl rfl ?_
  refine L.move rfl rfl ?_
  refine L.move rfl rfl ?_
  refine L.call rfl (evs.cons rfl <| evs.cons rfl <| evs.cons rfl <| evs.cons rfl <| evs.cons rfl <| evs.cons rfl <| evs.nil) qD qS (med_spec hO hI hc (p := p - 1) (q := p) (r := p + 1) (s := s) (by omega) (by omega) (by omega) hs hb) ?_
  rintro _ _ _ ⟨mx, s2, rfl, hmx, hs2, rfl, rfl⟩
  refine L.norm qA qA ?_
  refine L.assign rfl rfl ?_
  refine L.nil ?_
  refine T.thenN ?_
  refine T.ret ?_
  exact T.ret1 rfl rfl ⟨mx, s2, rfl, by omega, hs2, rfl, rfl⟩ qD qF
set_option maxHeartbeats 400000 in
theorem pivot_spec {g pb po len cap : Nat} {cf : ID32 → ID32 → Int} {xs : List ID32} (hO : SWO cf) (hI : ∀ x : ID32, ¬ cf x x < 0) (hc : ∀ x y : ID32, Spec Try.prog g [.agg (iC x).toArray, .agg (iC y).toArray] [] [] (fun u D' M' => u = .int .i64 (cf x y) ∧ D' = [] ∧ M' = [])) {ia ib : Nat} (h12 : ia + 12 < ib) (hib : ib ≤ len) (hb : len ≤ 1000000) : Spec Try.prog 56 [.slice (some ⟨pb, po, none⟩) len cap, .int .i64 (ia : Int), .int .i64 (ib : Int), fnV g []] [] [own 32 28 (some ⟨pb, po, none⟩) len cap ((xs).map iC)] (fun v D' M' => ∃ (p : Nat) (h : Int), v = .tuple #[.int .i64 (p : Int), .int .i64 h] ∧ (ia ≤ p ∧ p < ib) ∧ D' = [] ∧ M' = [own 32 28 (some ⟨pb, po, none⟩) len cap ((xs).map iC)]) := by
  refine Spec.intro (n := 63) Try.func56 rfl rfl (by decide) (Nat.le_of_ble_eq_true rfl) rfl (fun _ => qA) (fun _ => qA) ?_
  intro σ D M
  obtain ⟨ln, hL⟩ : ∃ ln, ln = ib - ia := ⟨_, rfl⟩
  refine T.seq ?_
  refine T.region ?_
  refine L.assign rfl rfl ?_
  refine L.assign rfl rfl ?_
  refine L.nil ?_
  refine T.thenN ?_
  refine T.seq ?_
  refine T.region ?_
  refine L.move rfl rfl ?_
  refine L.move rfl rfl ?_
  refine L.subN rfl rfl rfl (by omega) ?_
  refine L.known (t := 17) (u := .int .i64 ((ln : Nat) : Int)) rfl (congrArg (Value.int .i64) (by omega)) ?_
  refine L.assign rfl rfl ?_
  refine L.nil ?_
  refine T.thenN ?_
  refine T.seq ?_
  refine T.region ?_
  refine L.alloc rfl ze3 (fun b11 => ?_)
  refine L.nil ?_
  refine T.thenN ?_
  refine T.seq ?_
  refine T.region ?_
  refine L.move rfl rfl ?_
  refine L.move rfl rfl ?_
  refine L.quoN rfl rfl rfl qI ?_
  refine L.mulN rfl rfl rfl (by omega) ?_
  refine L.addN rfl rfl rfl (by omega) ?_
  refine L.known (t := 22) (u := .int .i64 ((ia + ln / 4 : Nat) : Int)) rfl (congrArg (Value.int .i64) (by omega)) ?_
  refine L.assign rfl rfl ?_
  refine L.nil ?_
  refine T.thenN ?_
  refine T.seq ?_
  refine T.region ?_
  refine L.move rfl rfl ?_
  refine L.move rfl rfl ?_
  refine L.quoN rfl rfl rfl qI ?_
  refine L.mulN rfl rfl rfl (by omega) ?_
  refine L.addN rfl rfl rfl (by omega) ?_
  refine L.known (t := 27) (u := .int .i64 ((ia + ln / 4 * 2 : Nat) : Int)) rfl (congrArg (Value.int .i64) (by omega)) ?_
  refine L.assign rfl rfl ?_
  refine L.nil ?_
  refine T.thenN ?_
  refine T.seq ?_
  refine T.region ?_
  refine L.move rfl rfl ?_
  refine L.move rfl rfl ?_
  refine L.quoN rfl rfl rfl qI ?_
  refine L.mulN rfl rfl rfl (by omega) ?_
  refine L.addN rfl rfl rfl (by omega) ?_
  refine L.known (t := 32) (u := .int .i64 ((ia + ln / 4 * 3 : Nat) : Int)) rfl (congrArg (Value.int .i64) (by omega)) ?_
  refine L.assign rfl rfl ?_
  refine L.nil ?_
  refine T.thenN ?_
  refine T.seq ?_
  refine T.seq ?_
  refine T.region ?_
  refine L.move rfl rfl ?_
  refine L.geI rfl rfl rfl ?_
  refine L.nil ?_
  refine T.thenN ?_
  refine T.condT rfl (decide_eq_true (by omega)) ?_
  refine T.seq ?_
  refine T.seq ?_
  refine T.region ?_
  refine L.move rfl rfl ?_
  refine L.geI rfl rfl rfl ?_
  refine L.nil ?_
  refine T.thenN ?_
  refine T.cutC (fun K' D' M' => ∃ (m1 m2 m3 : Nat) (s0 : Int), ((ia ≤ m1 ∧ m1 < ib) ∧ (ia ≤ m2 ∧ m2 < ib) ∧ (ia ≤ m3 ∧ m3 < ib) ∧ 0 ≤ s0 ∧ s0 ≤ 9) ∧ K' = [(12, .int .i64 (m1 : Int)), (13, .int .i64 (m2 : Int)), (14, .int .i64 (m3 : Int))] ∧ D' = [] ∧ M' = [own 32 28 (some ⟨pb, po, none⟩) len cap ((xs).map iC), cl b11 3 [.int .i64 s0]]) (M0 := [own 32 28 (some ⟨pb, po, none⟩) len cap ((xs).map iC), cl b11 3 [.int .i64 0]]) (.cons (t := 0) rfl <| .cons (t := 3) rfl <| .cons (t := 11) rfl <| SubK.nil _) qS ?_ ?_
  · skip
    refine T.cond rfl (fun h36 => ?_) (fun h36 => ?_)
    · try simp only [decide_eq_true_eq, decide_eq_false_iff_not, Bool.not_eq_true', Bool.not_eq_false', Bool.and_eq_true, Bool.or_eq_true] at h36
      refine T.seq ?_
      refine T.region ?_
      refine L.move rfl rfl ?_
      refine L.move rfl rfl ?_
      refine L.move rfl rfl ?_
      refine L.call rfl (evs.cons rfl <| evs.cons rfl <| evs.cons rfl <| evs.cons rfl <| evs.nil) qD qS (meda_spec hO hI hc (bs := b11) (p := ia + ln / 4) (s := 0) (by omega) (by omega) hb) ?_
      rintro _ _ _ ⟨m1, s1, rfl, hm1, hs1, rfl, rfl⟩
      refine L.norm qA qA ?_
      refine L.assign rfl rfl ?_
      refine L.nil ?_
      refine T.thenN ?_
      refine T.seq ?_
      refine T.region ?_
      refine L.move rfl rfl ?_
      refine L.move rfl rfl ?_
      refine L.move rfl rfl ?_
      refine L.call rfl (evs.cons rfl <| evs.cons rfl <| evs.cons rfl <| evs.cons rfl <| evs.nil) qD qS (meda_spec hO hI hc (bs := b11) (p := ia + ln / 4 * 2) (s := s1) (by omega) (by omega) hb) ?_
      rintro _ _ _ ⟨m2, s2, rfl, hm2, hs2, rfl, rfl⟩
      refine L.norm qA qA ?_
      refine L.assign rfl rfl ?_
      refine L.nil ?_
      refine T.thenN ?_
      refine T.region ?_
      refine L.move rfl rfl ?_
      refine L.move rfl rfl ?_
      refine L.move rfl rfl ?_
      refine L.call rfl (evs.cons rfl <| evs.cons rfl <| evs.cons rfl <| evs.cons rfl <| evs.nil) qD qS (meda_spec hO hI hc (bs := b11) (p := ia + ln / 4 * 3) (s := s2) (by omega) (by omega) hb) ?_
      rintro _ _ _ ⟨m3, s3, rfl, hm3, hs3, rfl, rfl⟩
      refine L.norm qA qA ?_
      refine L.assign rfl rfl ?_
      refine L.nil ?_
      refine T.thenN ?_
      exact T.toJoin ⟨m1, m2, m3, s3, (by omega), rfl, rfl, rfl⟩ (.cons (t := 12) rfl <| .cons (t := 13) rfl <| .cons (t := 14) rfl <| SubK.nil _) (.cons (t := 0) rfl <| .cons (t := 3) rfl <| .cons (t := 11) rfl <| SubK.nil _) qD qD qF
    · try simp only [decide_eq_true_eq, decide_eq_false_iff_not, Bool.not_eq_true', Bool.not_eq_false', Bool.and_eq_true, Bool.or_eq_true] at h36
      refine T.skip ?_
      refine T.thenN ?_
      exact T.toJoin ⟨ia + ln / 4, ia + ln / 4 * 2, ia + ln / 4 * 3, 0, (by omega), rfl, rfl, rfl⟩ (.cons (t := 12) rfl <| .cons (t := 13) rfl <| .cons (t := 14) rfl <| SubK.nil _) (.cons (t := 0) rfl <| .cons (t := 3) rfl <| .cons (t := 11) rfl <| SubK.nil _) qD qD qF
  rintro _ _ _ ⟨m1, m2, m3, s0, ⟨hm1, hm2, hm3, hs0⟩, rfl, rfl, rfl⟩
  refine T.norm3 qA qA qA ?_
  refine T.thenN ?_
  refine T.region ?_
  refine L.move rfl rfl ?_
  refine L.move rfl rfl ?_
  refine L.move rfl rfl ?_
  refine L.move rfl rfl ?_
  refine L.move rfl rfl ?_
  refine L.call rfl (evs.cons rfl <| evs.cons rfl <| evs.cons rfl <| evs.cons rfl <| evs.cons rfl <| evs.cons rfl <| evs.nil) qD qS (med_spec hO hI hc (bs := b11) (p := m1) (q := m2) (r := m3) (s := s0) (by omega) (by omega) (by omega) (by omega) hb) ?_
  rintro _ _ _ ⟨mx, s4, rfl, hmx, hs4, rfl, rfl⟩
  refine L.norm qA qA ?_
  refine L.assign rfl rfl ?_
  refine L.nil ?_
  refine T.thenN ?_
  refine T.seq ?_
  refine T.region ?_
  refine L.load rfl sc3 rfl qC ?_
  refine L.nil ?_
  refine T.thenN ?_
  refine T.block ?_
  refine T.seq ?_
  refine T.region ?_
  refine L.eqI rfl rfl rfl ?_
  refine L.assign rfl rfl ?_
  refine L.nil ?_
  refine T.thenN ?_
  refine T.cond rfl (fun h57 => ?_) (fun h57 => ?_)
  · try simp only [decide_eq_true_eq, decide_eq_false_iff_not, Bool.not_eq_true', Bool.not_eq_false', Bool.and_eq_true, Bool.or_eq_true] at h57
    refine T.seq ?_
    refine T.region ?_
    refine L.move rfl rfl ?_
    refine L.assign rfl rfl ?_
    refine L.assign rfl rfl ?_
    refine L.nil ?_
    refine T.thenN ?_
    refine T.ret ?_
    refine T.blkR ?_
    exact T.ret2 rfl rfl rfl ⟨mx, _, rfl, by omega, rfl, rfl⟩ qD qF
  · try simp only [decide_eq_true_eq, decide_eq_false_iff_not, Bool.not_eq_true', Bool.not_eq_false', Bool.and_eq_true, Bool.or_eq_true] at h57
    refine T.seq ?_
    refine T.region ?_
    refine L.eqI rfl rfl rfl ?_
    refine L.assign rfl rfl ?_
    refine L.nil ?_
    refine T.thenN ?_
    refine T.cond rfl (fun h60 => ?_) (fun h60 => ?_)
    · try simp only [decide_eq_true_eq, decide_eq_false_iff_not, Bool.not_eq_true', Bool.not_eq_false', Bool.and_eq_true, Bool.or_eq_true] at h60
      refine T.seq ?_
      refine T.region ?_
      refine L.move rfl rfl ?_
      refine L.assign rfl rfl ?_
      refine L.assign rfl rfl ?_
      refine L.nil ?_
      refine T.thenN ?_
      refine T.ret ?_
      refine T.blkR ?_
      exact T.ret2 rfl rfl rfl ⟨mx, _, rfl, by omega, rfl, rfl⟩ qD qF
    · try simp only [decide_eq_true_eq, decide_eq_false_iff_not, Bool.not_eq_true', Bool.not_eq_false', Bool.and_eq_true, Bool.or_eq_true] at h60
      refine T.seq ?_
      refine T.region ?_
      refine L.move rfl rfl ?_
      refine L.assign rfl rfl ?_
      refine L.assign rfl rfl ?_
      refine L.nil ?_
      refine T.thenN ?_
      refine T.ret ?_
      refine T.blkR ?_
      exact T.ret2 rfl rfl rfl ⟨mx, _, rfl, by omega, rfl, rfl⟩ qD qF
set_option maxHeartbeats 400000 in
theorem rev_spec {g pb po len cap : Nat} {cf : ID32 → ID32 → Int} {xs : List ID32} (hO : SWO cf) (hI : ∀ x : ID32, ¬ cf x x < 0) (hc : ∀ x y : ID32, Spec Try.prog g [.agg (iC x).toArray, .agg (iC y).toArray] [] [] (fun u D' M' => u = .int .i64 (cf x y) ∧ D' = [] ∧ M' = [])) {ia ib : Nat} (hab : ia < ib) (hib : ib ≤ len) (hb : len ≤ 1000000) : Spec Try.prog 57 [.slice (some ⟨pb, po, none⟩) len cap, .int .i64 (ia : Int), .int .i64 (ib : Int), fnV g []] [] [own 32 28 (some ⟨pb, po, none⟩) len cap ((xs).map iC)] (fun v D' M' => ∃ (ys : List ID32), v = .tuple #[] ∧ (PI ia ib xs ys) ∧ D' = [] ∧ M' = [own 32 28 (some ⟨pb, po, none⟩) len cap ((ys).map iC)]) := by
  refine Spec.intro (n := 34) Try.func57 rfl rfl (by decide) (Nat.le_of_ble_eq_true rfl) rfl (fun _ => qA) (fun _ => qA) ?_
  intro σ D M
  refine T.ownLen qM (fun hl hcc => ?_)
  rw [List.length_map] at hl
  refine T.seq ?_
  refine T.region ?_
  refine L.move rfl rfl ?_
  refine L.assign rfl rfl ?_
  refine L.nil ?_
  refine T.thenN ?_
  refine T.seq ?_
  refine T.region ?_
  refine L.move rfl rfl ?_
  refine L.subN rfl rfl rfl (by omega) ?_
  refine L.known (t := 12) (u := .int .i64 ((ib - 1 : Nat) : Int)) rfl (congrArg (Value.int .i64) (by omega)) ?_
  refine L.assign rfl rfl ?_
  refine L.nil ?_
  refine T.thenN ?_
  refine T.block ?_
  refine T.loop (fun K' D' M' μ => ∃ (i j : Nat) (zs : List ID32), ((ia ≤ i ∧ j < ib ∧ i ≤ j + 1) ∧ PI ia ib xs zs) ∧ K' = [(8, .int .i64 (i : Int)), (9, .int .i64 (j : Int))] ∧ D' = [] ∧ M' = [own 32 28 (some ⟨pb, po, none⟩) len cap ((zs).map iC)] ∧ μ = j + 1 - i) (.cons (t := 0) rfl <| SubK.nil _) (⟨ia, ib - 1, xs, ⟨by omega, .refl _ _ _⟩, rfl, rfl, rfl, rfl⟩) (.cons (t := 8) rfl <| .cons (t := 9) rfl <| SubK.nil _) qD qS ?_
  rintro K1 D1 M1 m1 ⟨i, j, zs, ⟨hr, hP⟩, rfl, rfl, rfl, rfl⟩
  refine T.norm3 qA qA qA ?_
  have hzl := hP.len
  refine T.seq ?_
  refine T.seq ?_
  refine T.region ?_
  refine L.move rfl rfl ?_
  refine L.move rfl rfl ?_
  refine L.ltI rfl rfl rfl ?_
  refine L.nil ?_
  refine T.thenN ?_
  refine T.cond rfl (fun h15 => ?_) (fun h15 => ?_)
  · try simp only [decide_eq_true_eq, decide_eq_false_iff_not, Bool.not_eq_true', Bool.not_eq_false', Bool.and_eq_true, Bool.or_eq_true] at h15
    refine T.skip ?_
    refine T.thenN ?_
    refine T.block ?_
    refine T.seq ?_
    have hg0 : zs[i]? = some (gd zs (i)) := gd_get (by omega)
    have hw0 := iC_len (gd zs (i))
    have hg1 : zs[j]? = some (gd zs (j)) := gd_get (by omega)
    have hw1 := iC_len (gd zs (j))
    refine T.regionA (clsL [1, 1, 1, 1, 1, 1, 1, 0, 1, 1, 1, 0, 1, 2, 1, 2]) (by kernel_rfl) ?_
    refine A.takeP (i := 0) rfl rfl rfl rfl (by kernel_rfl) (by kernel_rfl) (by kernel_rfl) rfl qD ?_
    refine L.move rfl rfl ?_
    refine A.took ?_
    refine A.takeP (i := 1) rfl rfl rfl rfl (by kernel_rfl) (by kernel_rfl) (by kernel_rfl) rfl qD ?_
    refine L.move rfl rfl ?_
    refine A.took ?_
    refine A.takeP (i := 2) rfl rfl rfl rfl (by kernel_rfl) (by kernel_rfl) (by kernel_rfl) rfl qD ?_
    refine L.move rfl rfl ?_
    refine A.took ?_
    refine A.takeP (i := 3) rfl rfl rfl rfl (by kernel_rfl) (by kernel_rfl) (by kernel_rfl) rfl qD ?_
    refine L.move rfl rfl ?_
    refine A.took ?_
    refine A.takeP (i := 4) rfl rfl rfl rfl (by kernel_rfl) (by kernel_rfl) (by kernel_rfl) rfl qD ?_
    refine L.move rfl rfl ?_
    refine A.took ?_
    refine A.takeP (i := 5) rfl rfl rfl rfl (by kernel_rfl) (by kernel_rfl) (by kernel_rfl) rfl qD ?_
    refine L.move rfl rfl ?_
    refine A.took ?_
    refine A.takeP (i := 6) rfl rfl rfl rfl (by kernel_rfl) (by kernel_rfl) (by kernel_rfl) rfl qD ?_
    refine L.idxG (i := j) rfl Try.underlying34 sz28 rfl rfl (by first | rfl | omega | (simp; done)) qI ?_
    refine A.took ?_
    refine A.takeP (i := 8) rfl rfl rfl rfl (by kernel_rfl) (by kernel_rfl) (by kernel_rfl) rfl qD ?_
    refine L.move rfl rfl ?_
    refine A.took ?_
    refine A.takeP (i := 9) rfl rfl rfl rfl (by kernel_rfl) (by kernel_rfl) (by kernel_rfl) rfl qD ?_
    refine L.move rfl rfl ?_
    refine A.took ?_
    refine A.takeP (i := 10) rfl rfl rfl rfl (by kernel_rfl) (by kernel_rfl) (by kernel_rfl) rfl qD ?_
    refine L.idxG (i := i) rfl Try.underlying34 sz28 rfl rfl (by first | rfl | omega | (simp; done)) qI ?_
    refine A.took ?_
    refine A.take (i := 7) rfl rfl rfl rfl (by kernel_rfl) (by kernel_rfl) (by kernel_rfl) (by kernel_rfl) rfl qD qF ?_
    refine L.loadA rfl ag28 rfl (CellsN.ofOwn qM (map_get hg1) hw1) ?_
    refine A.took ?_
    refine A.take (i := 11) rfl rfl rfl rfl (by kernel_rfl) (by kernel_rfl) (by kernel_rfl) (by kernel_rfl) rfl qD qF ?_
    refine L.loadA rfl ag28 rfl (CellsN.ofOwn qM (map_get hg0) hw0) ?_
    refine A.took ?_
    refine A.takeP (i := 12) rfl rfl rfl rfl (by kernel_rfl) (by kernel_rfl) (by kernel_rfl) rfl qD ?_
    refine L.idxG (i := i) rfl Try.underlying34 sz28 rfl rfl (by first | rfl | omega | (simp; done)) qI ?_
    refine A.took ?_
    refine A.branch (is := [13]) (by kernel_rfl) (by decide) (Each.cons rfl ?_ <| Each.nil) 
    refine L.storeOA (i) ag28 rfl (by first | rfl | omega | (simp; done)) rfl qL qO qP qI ?_
    refine A.backT rfl qD ?_
    refine A.takeP (i := 14) rfl rfl rfl rfl (by kernel_rfl) (by kernel_rfl) (by kernel_rfl) rfl qD ?_
    refine L.idxG (i := j) rfl Try.underlying34 sz28 rfl rfl (by first | rfl | omega | (simp; done)) qI ?_
    refine A.took ?_
    refine A.branch (is := [15]) (by kernel_rfl) (by decide) (Each.cons rfl ?_ <| Each.nil) 
    refine L.storeOA (j) ag28 rfl (by first | rfl | omega | (simp; done)) rfl qL qO qP qI ?_
    refine A.backT rfl qD ?_
    refine A.done (by kernel_rfl) ?_
    refine T.ownEq _ ((sw zs (i) (j)).map iC) qP (by rw [sw, List.map_set, List.map_set]) ?_
    refine T.thenN ?_
    refine T.seq ?_
    refine T.region ?_
    refine L.move rfl rfl ?_
    refine L.addN rfl rfl rfl (by omega) ?_
    refine L.assign rfl rfl ?_
    refine L.nil ?_
    refine T.thenN ?_
    refine T.region ?_
    refine L.move rfl rfl ?_
    refine L.subN rfl rfl rfl (by omega) ?_
    refine L.known (t := 33) (u := .int .i64 ((j - 1 : Nat) : Int)) rfl (congrArg (Value.int .i64) (by omega)) ?_
    refine L.assign rfl rfl ?_
    refine L.nil ?_
    refine T.blkN ?_
    refine T.thenN ?_
    exact T.back ⟨i + 1, j - 1, sw zs i j, ⟨by omega, hP.trans (.sw (by omega) (by omega) (by omega) (by omega) (by omega))⟩, rfl, rfl, rfl, rfl⟩ qI (.cons (t := 8) rfl <| .cons (t := 9) rfl <| SubK.nil _) (.cons (t := 0) rfl <| SubK.nil _) qD qD qF
  · try simp only [decide_eq_true_eq, decide_eq_false_iff_not, Bool.not_eq_true', Bool.not_eq_false', Bool.and_eq_true, Bool.or_eq_true] at h15
    refine T.exit ?_
    refine T.thenX ?_
    refine T.thenX ?_
    refine T.blkX ?_
    exact T.retN (by simp) rfl ⟨zs, rfl, hP, rfl, rfl⟩ qD qF
set_option maxHeartbeats 400000 in
theorem insw_spec {a : Option Addr} {g len cap : Nat} {cf : ID32 → ID32 → Int} {xs : List ID32} (hO : SWO cf) (hI : ∀ x : ID32, ¬ cf x x < 0) (hc : ∀ x y : ID32, Spec Try.prog g [.agg (iC x).toArray, .agg (iC y).toArray] [] [] (fun u D' M' => u = .int .i64 (cf x y) ∧ D' = [] ∧ M' = [])) {ia ib : Nat} (hab : ia ≤ ib) (hib : ib ≤ len) (hb : len ≤ 1000000) : Spec Try.prog 53 [.slice a len cap, .int .i64 (ia : Int), .int .i64 (ib : Int), fnV g []] [] [own 32 28 a len cap ((xs).map iC)] (fun v D' M' => ∃ (ys : List ID32), v = .tuple #[] ∧ (PI ia ib xs ys) ∧ (SrtP cf ys ia ib) ∧ D' = [] ∧ M' = [own 32 28 a len cap ((ys).map iC)]) := by
  refine Spec.intro (n := 53) Try.func53 rfl rfl (by decide) (Nat.le_of_ble_eq_true rfl) rfl (fun _ => qA) (fun _ => qA) ?_
  intro σ D M
  refine T.ownLen qM (fun hl hcc => ?_)
  rw [List.length_map] at hl
  refine T.seq ?_
  refine T.region ?_
  refine L.move rfl rfl ?_
  refine L.addN rfl rfl rfl (by omega) ?_
  refine L.assign rfl rfl ?_
  refine L.nil ?_
  refine T.thenN ?_
  refine T.block ?_
  refine T.loop (fun K' D' M' μ => ∃ (i : Nat) (ys : List ID32), ((ia + 1 ≤ i ∧ (i ≤ ib ∨ i = ia + 1)) ∧ PI ia ib xs ys ∧ SrtP cf ys ia i) ∧ K' = [(8, .int .i64 (i : Int))] ∧ D' = [] ∧ M' = [own 32 28 a len cap ((ys).map iC)] ∧ μ = ib - i) (.cons (t := 0) rfl <| .cons (t := 1) rfl <| .cons (t := 2) rfl <| .cons (t := 3) rfl <| SubK.nil _) (⟨ia + 1, xs, ⟨by omega, .refl _ _ _, .one⟩, rfl, rfl, rfl, rfl⟩) (.cons (t := 8) rfl <| SubK.nil _) qD qS ?_
  rintro K1 D1 M1 m1 ⟨i, ys, ⟨hi, hP, hS⟩, rfl, rfl, rfl, rfl⟩
  refine T.norm3 qA qA qA ?_
  have hyl := hP.len
  refine T.seq ?_
  refine T.seq ?_
  refine T.region ?_
  refine L.move rfl rfl ?_
  refine L.move rfl rfl ?_
  refine L.ltI rfl rfl rfl ?_
  refine L.nil ?_
  refine T.thenN ?_
  refine T.cond rfl (fun h14 => ?_) (fun h14 => ?_)
  · try simp only [decide_eq_true_eq, decide_eq_false_iff_not, Bool.not_eq_true', Bool.not_eq_false', Bool.and_eq_true, Bool.or_eq_true] at h14
    refine T.ownNe qM (by omega) (fun pb po ha => ?_)
    subst ha
    refine T.skip ?_
    refine T.thenN ?_
    refine T.seq ?_
    refine T.block ?_
    refine T.seq ?_
    refine T.region ?_
    refine L.move rfl rfl ?_
    refine L.assign rfl rfl ?_
    refine L.nil ?_
    refine T.thenN ?_
    refine T.block ?_
    refine T.loop (fun K' D' M' μ => ∃ (j : Nat) (zs : List ID32), ((ia ≤ j ∧ j ≤ i) ∧ PI ia ib xs zs ∧ InB cf zs ia i j) ∧ K' = [(9, .int .i64 (j : Int))] ∧ D' = [] ∧ M' = [own 32 28 (some ⟨pb, po, none⟩) len cap ((zs).map iC)] ∧ μ = 2 * j) (.cons (t := 0) rfl <| .cons (t := 1) rfl <| .cons (t := 2) rfl <| .cons (t := 3) rfl <| .cons (t := 8) rfl <| SubK.nil _) (⟨i, ys, ⟨by omega, hP, hS.start⟩, rfl, rfl, rfl, rfl⟩) (.cons (t := 9) rfl <| SubK.nil _) qD qS ?_
    rintro K1 D1 M1 m1 ⟨j, zs, ⟨hj, hP2, hB⟩, rfl, rfl, rfl, rfl⟩
    refine T.norm3 qA qA qA ?_
    have hzl := hP2.len
    refine T.seq ?_
    refine T.seq ?_
    rcases Nat.lt_or_ge ia j with hij | hij
    · skip
      have hg0 : zs[j]? = some (gd zs (j)) := gd_get (by omega)
      have hw0 := iC_len (gd zs (j))
      have hg1 : zs[j - 1]? = some (gd zs (j - 1)) := gd_get (by omega)
      have hw1 := iC_len (gd zs (j - 1))
      refine T.regionQ (by kernel_rfl) (by kernel_rfl) ?_
      refine L.move rfl rfl ?_
      refine L.move rfl rfl ?_
      refine L.gtI rfl rfl rfl ?_
      refine L.move rfl rfl ?_
      refine L.known (t := 21) rfl (show _ = Value.bool true from congrArg Value.bool (decide_eq_true (by omega))) ?_
      refine L.guardT (dj := 21) rfl rfl rfl ?_
      refine L.move rfl rfl ?_
      refine L.guardT (dj := 21) rfl rfl rfl ?_
      refine L.move rfl rfl ?_
      refine L.guardT (dj := 21) rfl rfl rfl ?_
      refine L.move rfl rfl ?_
      refine L.guardT (dj := 21) rfl rfl rfl ?_
      refine L.idxG (i := j) rfl Try.underlying34 sz28 rfl rfl (by first | rfl | omega | (simp; done)) qI ?_
      refine L.guardT (dj := 21) rfl rfl rfl ?_
      refine L.loadA rfl ag28 rfl (CellsN.ofOwn qM (map_get hg0) hw0) ?_
      refine L.guardT (dj := 21) rfl rfl rfl ?_
      refine L.move rfl rfl ?_
      refine L.guardT (dj := 21) rfl rfl rfl ?_
      refine L.move rfl rfl ?_
      refine L.guardT (dj := 21) rfl rfl rfl ?_
      refine L.subN rfl rfl rfl (by omega) ?_
      refine L.known (t := 29) (u := .int .i64 ((j - 1 : Nat) : Int)) rfl (congrArg (Value.int .i64) (by omega)) ?_
      refine L.guardT (dj := 21) rfl rfl rfl ?_
      refine L.idxG (i := j - 1) rfl Try.underlying34 sz28 rfl rfl (by first | rfl | omega | (simp; done)) qI ?_
      refine L.guardT (dj := 21) rfl rfl rfl ?_
      refine L.loadA rfl ag28 rfl (CellsN.ofOwn qM (map_get hg1) hw1) ?_
      refine L.guardT (dj := 21) rfl rfl rfl ?_
      refine L.callVF rfl rfl (evs.cons rfl <| evs.cons rfl <| evs.nil) qD qS (hc (gd zs j) (gd zs (j - 1))) (by rintro u D1 M1 ⟨rfl, rfl, rfl⟩; exact ⟨rfl, _, qA, qF⟩) ?_
      refine L.guardT (dj := 21) rfl rfl rfl ?_
      refine L.ltI rfl rfl rfl ?_
      refine L.pickT rfl rfl rfl ?_
      refine L.nilQ ?_
      refine T.thenN ?_
      refine T.cond rfl (fun h34 => ?_) (fun h34 => ?_)
      · try simp only [decide_eq_true_eq, decide_eq_false_iff_not, Bool.not_eq_true', Bool.not_eq_false', Bool.and_eq_true, Bool.or_eq_true] at h34
        refine T.skip ?_
        refine T.thenN ?_
        refine T.seq ?_
        refine T.block ?_
        have hg0 : zs[j]? = some (gd zs (j)) := gd_get (by omega)
        have hw0 := iC_len (gd zs (j))
        have hg1 : zs[j - 1]? = some (gd zs (j - 1)) := gd_get (by omega)
        have hw1 := iC_len (gd zs (j - 1))
        refine T.regionA (clsL [1, 1, 1, 1, 1, 1, 1, 1, 1, 0, 1, 1, 1, 0, 1, 2, 1, 2]) (by kernel_rfl) ?_
        refine A.takeP (i := 0) rfl rfl rfl rfl (by kernel_rfl) (by kernel_rfl) (by kernel_rfl) rfl qD ?_
        refine L.move rfl rfl ?_
        refine A.took ?_
        refine A.takeP (i := 1) rfl rfl rfl rfl (by kernel_rfl) (by kernel_rfl) (by kernel_rfl) rfl qD ?_
        refine L.move rfl rfl ?_
        refine A.took ?_
        refine A.takeP (i := 2) rfl rfl rfl rfl (by kernel_rfl) (by kernel_rfl) (by kernel_rfl) rfl qD ?_
        refine L.move rfl rfl ?_
        refine A.took ?_
        refine A.takeP (i := 3) rfl rfl rfl rfl (by kernel_rfl) (by kernel_rfl) (by kernel_rfl) rfl qD ?_
        refine L.move rfl rfl ?_
        refine A.took ?_
        refine A.takeP (i := 4) rfl rfl rfl rfl (by kernel_rfl) (by kernel_rfl) (by kernel_rfl) rfl qD ?_
        refine L.subN rfl rfl rfl (by omega) ?_
        refine L.known (t := 41) (u := .int .i64 ((j - 1 : Nat) : Int)) rfl (congrArg (Value.int .i64) (by omega)) ?_
        refine A.took ?_
        refine A.takeP (i := 5) rfl rfl rfl rfl (by kernel_rfl) (by kernel_rfl) (by kernel_rfl) rfl qD ?_
        refine L.move rfl rfl ?_
        refine A.took ?_
        refine A.takeP (i := 6) rfl rfl rfl rfl (by kernel_rfl) (by kernel_rfl) (by kernel_rfl) rfl qD ?_
        refine L.move rfl rfl ?_
        refine A.took ?_
        refine A.takeP (i := 7) rfl rfl rfl rfl (by kernel_rfl) (by kernel_rfl) (by kernel_rfl) rfl qD ?_
        refine L.subN rfl rfl rfl (by omega) ?_
        refine L.known (t := 44) (u := .int .i64 ((j - 1 : Nat) : Int)) rfl (congrArg (Value.int .i64) (by omega)) ?_
        refine A.took ?_
        refine A.takeP (i := 8) rfl rfl rfl rfl (by kernel_rfl) (by kernel_rfl) (by kernel_rfl) rfl qD ?_
        refine L.idxG (i := j - 1) rfl Try.underlying34 sz28 rfl rfl (by first | rfl | omega | (simp; done)) qI ?_
        refine A.took ?_
        refine A.takeP (i := 10) rfl rfl rfl rfl (by kernel_rfl) (by kernel_rfl) (by kernel_rfl) rfl qD ?_
        refine L.move rfl rfl ?_
        refine A.took ?_
        refine A.takeP (i := 11) rfl rfl rfl rfl (by kernel_rfl) (by kernel_rfl) (by kernel_rfl) rfl qD ?_
        refine L.move rfl rfl ?_
        refine A.took ?_
        refine A.takeP (i := 12) rfl rfl rfl rfl (by kernel_rfl) (by kernel_rfl) (by kernel_rfl) rfl qD ?_
        refine L.idxG (i := j) rfl Try.underlying34 sz28 rfl rfl (by first | rfl | omega | (simp; done)) qI ?_
        refine A.took ?_
        refine A.take (i := 9) rfl rfl rfl rfl (by kernel_rfl) (by kernel_rfl) (by kernel_rfl) (by kernel_rfl) rfl qD qF ?_
        refine L.loadA rfl ag28 rfl (CellsN.ofOwn qM (map_get hg1) hw1) ?_
        refine A.took ?_
        refine A.take (i := 13) rfl rfl rfl rfl (by kernel_rfl) (by kernel_rfl) (by kernel_rfl) (by kernel_rfl) rfl qD qF ?_
        refine L.loadA rfl ag28 rfl (CellsN.ofOwn qM (map_get hg0) hw0) ?_
        refine A.took ?_
        refine A.takeP (i := 14) rfl rfl rfl rfl (by kernel_rfl) (by kernel_rfl) (by kernel_rfl) rfl qD ?_
        refine L.idxG (i := j) rfl Try.underlying34 sz28 rfl rfl (by first | rfl | omega | (simp; done)) qI ?_
        refine A.took ?_
        refine A.branch (is := [15]) (by kernel_rfl) (by decide) (Each.cons rfl ?_ <| Each.nil) 
        refine L.storeOA (j) ag28 rfl (by first | rfl | omega | (simp; done)) rfl qL qO qP qI ?_
        refine A.backT rfl qD ?_
        refine A.takeP (i := 16) rfl rfl rfl rfl (by kernel_rfl) (by kernel_rfl) (by kernel_rfl) rfl qD ?_
        refine L.idxG (i := j - 1) rfl Try.underlying34 sz28 rfl rfl (by first | rfl | omega | (simp; done)) qI ?_
        refine A.took ?_
        refine A.branch (is := [17]) (by kernel_rfl) (by decide) (Each.cons rfl ?_ <| Each.nil) 
        refine L.storeOA (j - 1) ag28 rfl (by first | rfl | omega | (simp; done)) rfl qL qO qP qI ?_
        refine A.backT rfl qD ?_
        refine A.done (by kernel_rfl) ?_
        refine T.ownEq _ ((sw zs (j) (j - 1)).map iC) qP (by rw [sw, List.map_set, List.map_set]) ?_
        refine T.blkN ?_
        refine T.thenN ?_
        refine T.region ?_
        refine L.move rfl rfl ?_
        refine L.subN rfl rfl rfl (by omega) ?_
        refine L.known (t := 36) (u := .int .i64 ((j - 1 : Nat) : Int)) rfl (congrArg (Value.int .i64) (by omega)) ?_
        refine L.assign rfl rfl ?_
        refine L.nil ?_
        refine T.thenN ?_
        exact T.back ⟨j - 1, sw zs j (j - 1), ⟨by omega, hP2.trans (.sw (by omega) (by omega) (by omega) (by omega) (by omega)), hB.swap hO (by omega) (by omega) (by omega) h34⟩, rfl, rfl, rfl, rfl⟩ qI (.cons (t := 9) rfl <| SubK.nil _) (.cons (t := 0) rfl <| .cons (t := 1) rfl <| .cons (t := 2) rfl <| .cons (t := 3) rfl <| .cons (t := 8) rfl <| SubK.nil _) qD qD qF
      · try simp only [decide_eq_true_eq, decide_eq_false_iff_not, Bool.not_eq_true', Bool.not_eq_false', Bool.and_eq_true, Bool.or_eq_true] at h34
        have hend := hB.stop hO (by omega) (by omega) (fun _ => h34)
        refine T.exit ?_
        refine T.thenX ?_
        refine T.thenX ?_
        refine T.blkX ?_
        refine T.blkN ?_
        refine T.thenN ?_
        refine T.region ?_
        refine L.move rfl rfl ?_
        refine L.addN rfl rfl rfl (by omega) ?_
        refine L.assign rfl rfl ?_
        refine L.nil ?_
        refine T.thenN ?_
        exact T.back ⟨i + 1, _, ⟨by omega, hP2, hend⟩, rfl, rfl, rfl, rfl⟩ qI (.cons (t := 8) rfl <| SubK.nil _) (.cons (t := 0) rfl <| .cons (t := 1) rfl <| .cons (t := 2) rfl <| .cons (t := 3) rfl <| SubK.nil _) qD qD qF
    · skip
      have hend := hB.stop hO (by omega) (by omega) (fun e => absurd e (by omega))
      refine T.regionQ (by kernel_rfl) (by kernel_rfl) ?_
      refine L.move rfl rfl ?_
      refine L.move rfl rfl ?_
      refine L.gtI rfl rfl rfl ?_
      refine L.move rfl rfl ?_
      refine L.known (t := 21) rfl (show _ = Value.bool false from congrArg Value.bool (decide_eq_false (by omega))) ?_
      refine L.guardF (dj := 21) (c := false) rfl rfl rfl rfl rfl (by decide) ?_
      refine L.guardF (dj := 21) (c := false) rfl rfl rfl rfl rfl (by decide) ?_
      refine L.guardF (dj := 21) (c := false) rfl rfl rfl rfl rfl (by decide) ?_
      refine L.guardF (dj := 21) (c := false) rfl rfl rfl rfl rfl (by decide) ?_
      refine L.guardF (dj := 21) (c := false) rfl rfl rfl rfl rfl (by decide) ?_
      refine L.guardF (dj := 21) (c := false) rfl rfl rfl rfl rfl (by decide) ?_
      refine L.guardF (dj := 21) (c := false) rfl rfl rfl rfl rfl (by decide) ?_
      refine L.guardF (dj := 21) (c := false) rfl rfl rfl rfl rfl (by decide) ?_
      refine L.guardF (dj := 21) (c := false) rfl rfl rfl rfl rfl (by decide) ?_
      refine L.guardF (dj := 21) (c := false) rfl rfl rfl rfl rfl (by decide) ?_
      refine L.guardF (dj := 21) (c := false) rfl rfl rfl rfl rfl (by decide) ?_
      refine L.guardF (dj := 21) (c := false) rfl rfl rfl rfl rfl (by decide) ?_
      refine L.pickF rfl rfl rfl ?_
      refine L.nilQ ?_
      refine T.thenN ?_
      refine T.condF rfl rfl ?_
      refine T.exit ?_
      refine T.thenX ?_
      refine T.thenX ?_
      refine T.blkX ?_
      refine T.blkN ?_
      refine T.thenN ?_
      refine T.region ?_
      refine L.move rfl rfl ?_
      refine L.addN rfl rfl rfl (by omega) ?_
      refine L.assign rfl rfl ?_
      refine L.nil ?_
      refine T.thenN ?_
      exact T.back ⟨i + 1, _, ⟨by omega, hP2, hend⟩, rfl, rfl, rfl, rfl⟩ qI (.cons (t := 8) rfl <| SubK.nil _) (.cons (t := 0) rfl <| .cons (t := 1) rfl <| .cons (t := 2) rfl <| .cons (t := 3) rfl <| SubK.nil _) qD qD qF
  · try simp only [decide_eq_true_eq, decide_eq_false_iff_not, Bool.not_eq_true', Bool.not_eq_false', Bool.and_eq_true, Bool.or_eq_true] at h14
    refine T.exit ?_
    refine T.thenX ?_
    refine T.thenX ?_
    refine T.blkX ?_
    exact T.retN (by simp) rfl ⟨ys, rfl, hP, fun p q h1 h2 h3 => hS p q h1 h2 (by omega), rfl, rfl⟩ qD qF
set_option maxHeartbeats 400000 in
theorem sift_spec {g pb po len cap : Nat} {cf : ID32 → ID32 → Int} {xs : List ID32} (hO : SWO cf) (hI : ∀ x : ID32, ¬ cf x x < 0) (hc : ∀ x y : ID32, Spec Try.prog g [.agg (iC x).toArray, .agg (iC y).toArray] [] [] (fun u D' M' => u = .int .i64 (cf x y) ∧ D' = [] ∧ M' = [])) {lo hi f : Nat} (hH : Heap cf xs f (lo + 1) hi) (hfl : f + hi ≤ len) (hb : len ≤ 1000000) (hlo : lo ≤ len) : Spec Try.prog 67 [.slice (some ⟨pb, po, none⟩) len cap, .int .i64 (lo : Int), .int .i64 (hi : Int), .int .i64 (f : Int), fnV g []] [] [own 32 28 (some ⟨pb, po, none⟩) len cap ((xs).map iC)] (fun v D' M' => ∃ (ys : List ID32), v = .tuple #[] ∧ (PI (f + lo) (f + hi) xs ys) ∧ (Heap cf ys f lo hi) ∧ D' = [] ∧ M' = [own 32 28 (some ⟨pb, po, none⟩) len cap ((ys).map iC)]) := by
  refine Spec.intro (n := 82) Try.func67 rfl rfl (by decide) (Nat.le_of_ble_eq_true rfl) rfl (fun _ => qA) (fun _ => qA) ?_
  intro σ D M
  refine T.ownLen qM (fun hl hcc => ?_)
  rw [List.length_map] at hl
  refine T.seq ?_
  refine T.region ?_
  refine L.move rfl rfl ?_
  refine L.assign rfl rfl ?_
  refine L.nil ?_
  refine T.thenN ?_
  refine T.block ?_
  refine T.loop (fun K' D' M' μ => ∃ (r : Nat) (zs : List ID32), ((lo ≤ r ∧ (r < hi ∨ r = lo)) ∧ PI (f + lo) (f + hi) xs zs ∧ HeapB cf zs f lo hi r) ∧ K' = [(10, .int .i64 (r : Int))] ∧ D' = [] ∧ M' = [own 32 28 (some ⟨pb, po, none⟩) len cap ((zs).map iC)] ∧ μ = hi - r) (.cons (t := 0) rfl <| .cons (t := 2) rfl <| .cons (t := 3) rfl <| .cons (t := 4) rfl <| SubK.nil _) (⟨lo, xs, ⟨by omega, .refl _ _ _, hH.start⟩, rfl, rfl, rfl, rfl⟩) (.cons (t := 10) rfl <| SubK.nil _) qD qS ?_
  rintro K1 D1 M1 m1 ⟨r, zs, ⟨hr, hP, hB⟩, rfl, rfl, rfl, rfl⟩
  refine T.norm3 qA qA qA ?_
  have hzl := hP.len
  refine T.block ?_
  refine T.seq ?_
  refine T.region ?_
  refine L.move rfl rfl ?_
  refine L.mulN rfl rfl rfl (by omega) ?_
  refine L.addN rfl rfl rfl (by omega) ?_
  refine L.known (t := 15) (u := .int .i64 ((2 * r + 1 : Nat) : Int)) rfl (congrArg (Value.int .i64) (by omega)) ?_
  refine L.assign rfl rfl ?_
  refine L.nil ?_
  refine T.thenN ?_
  refine T.seq ?_
  refine T.seq ?_
  refine T.region ?_
  refine L.move rfl rfl ?_
  refine L.move rfl rfl ?_
  refine L.geI rfl rfl rfl ?_
  refine L.nil ?_
  refine T.thenN ?_
  refine T.cond rfl (fun h18 => ?_) (fun h18 => ?_)
  · try simp only [decide_eq_true_eq, decide_eq_false_iff_not, Bool.not_eq_true', Bool.not_eq_false', Bool.and_eq_true, Bool.or_eq_true] at h18
    have hend := hB.leaf (by omega)
    refine T.exit ?_
    refine T.thenX ?_
    refine T.blkY rfl ?_
    refine T.thenX ?_
    refine T.blkX ?_
    exact T.retN (by simp) rfl ⟨zs, rfl, hP, hend, rfl, rfl⟩ qD qF
  · try simp only [decide_eq_true_eq, decide_eq_false_iff_not, Bool.not_eq_true', Bool.not_eq_false', Bool.and_eq_true, Bool.or_eq_true] at h18
    refine T.skip ?_
    refine T.thenN ?_
    refine T.seq ?_
    refine T.seq ?_
    refine T.cutC (fun K' D' M' => ∃ (w : Bool), ((w = true → 2 * r + 1 + 1 < hi ∧ cf (gd zs (f + (2 * r + 1))) (gd zs (f + (2 * r + 1) + 1)) < 0) ∧ (w = false → 2 * r + 1 + 1 < hi → ¬ cf (gd zs (f + (2 * r + 1))) (gd zs (f + (2 * r + 1) + 1)) < 0)) ∧ K' = [(40, .bool w)] ∧ D' = [] ∧ M' = [own 32 28 (some ⟨pb, po, none⟩) len cap ((zs).map iC)]) (M0 := [own 32 28 (some ⟨pb, po, none⟩) len cap ((zs).map iC)]) (.cons (t := 0) rfl <| .cons (t := 2) rfl <| .cons (t := 3) rfl <| .cons (t := 4) rfl <| .cons (t := 10) rfl <| .cons (t := 11) rfl <| SubK.nil _) qS ?_ ?_
    · skip
      rcases Nat.lt_or_ge (2 * r + 1 + 1) hi with hch | hch
      · skip
        have hg0 : zs[f + (2 * r + 1)]? = some (gd zs (f + (2 * r + 1))) := gd_get (by omega)
        have hw0 := iC_len (gd zs (f + (2 * r + 1)))
        have hg1 : zs[f + (2 * r + 1) + 1]? = some (gd zs (f + (2 * r + 1) + 1)) := gd_get (by omega)
        have hw1 := iC_len (gd zs (f + (2 * r + 1) + 1))
        refine T.regionQ (by kernel_rfl) (by kernel_rfl) ?_
        refine L.move rfl rfl ?_
        refine L.addN rfl rfl rfl (by omega) ?_
        refine L.move rfl rfl ?_
        refine L.ltI rfl rfl rfl ?_
        refine L.move rfl rfl ?_
        refine L.known (t := 23) rfl (show _ = Value.bool true from congrArg Value.bool (decide_eq_true (by omega))) ?_
        refine L.guardT (dj := 23) rfl rfl rfl ?_
        refine L.move rfl rfl ?_
        refine L.guardT (dj := 23) rfl rfl rfl ?_
        refine L.move rfl rfl ?_
        refine L.guardT (dj := 23) rfl rfl rfl ?_
        refine L.move rfl rfl ?_
        refine L.guardT (dj := 23) rfl rfl rfl ?_
        refine L.move rfl rfl ?_
        refine L.guardT (dj := 23) rfl rfl rfl ?_
        refine L.addN rfl rfl rfl (by omega) ?_
        refine L.guardT (dj := 23) rfl rfl rfl ?_
        refine L.idxG (i := f + (2 * r + 1)) rfl Try.underlying34 sz28 rfl rfl (by first | rfl | omega | (simp; done)) qI ?_
        refine L.guardT (dj := 23) rfl rfl rfl ?_
        refine L.loadA rfl ag28 rfl (CellsN.ofOwn qM (map_get hg0) hw0) ?_
        refine L.guardT (dj := 23) rfl rfl rfl ?_
        refine L.move rfl rfl ?_
        refine L.guardT (dj := 23) rfl rfl rfl ?_
        refine L.move rfl rfl ?_
        refine L.guardT (dj := 23) rfl rfl rfl ?_
        refine L.move rfl rfl ?_
        refine L.guardT (dj := 23) rfl rfl rfl ?_
        refine L.addN rfl rfl rfl (by omega) ?_
        refine L.guardT (dj := 23) rfl rfl rfl ?_
        refine L.addN rfl rfl rfl (by omega) ?_
        refine L.guardT (dj := 23) rfl rfl rfl ?_
        refine L.idxG (i := f + (2 * r + 1) + 1) rfl Try.underlying34 sz28 rfl rfl (by first | rfl | omega | (simp; done)) qI ?_
        refine L.guardT (dj := 23) rfl rfl rfl ?_
        refine L.loadA rfl ag28 rfl (CellsN.ofOwn qM (map_get hg1) hw1) ?_
        refine L.guardT (dj := 23) rfl rfl rfl ?_
        refine L.callVF rfl rfl (evs.cons rfl <| evs.cons rfl <| evs.nil) qD qS (hc (gd zs (f + (2 * r + 1))) (gd zs (f + (2 * r + 1) + 1))) (by rintro u D1 M1 ⟨rfl, rfl, rfl⟩; exact ⟨rfl, _, qA, qF⟩) ?_
        refine L.guardT (dj := 23) rfl rfl rfl ?_
        refine L.ltI rfl rfl rfl ?_
        refine L.pickT rfl rfl rfl ?_
        refine L.nilQ ?_
        refine T.thenN ?_
        exact T.toJoin ⟨_, ⟨fun e => ⟨hch, of_decide_eq_true e⟩, fun e _ => of_decide_eq_false e⟩, rfl, rfl, rfl⟩ (.cons (t := 40) rfl <| SubK.nil _) (.cons (t := 0) rfl <| .cons (t := 2) rfl <| .cons (t := 3) rfl <| .cons (t := 4) rfl <| .cons (t := 10) rfl <| .cons (t := 11) rfl <| SubK.nil _) qD qD qF
      · skip
        refine T.regionQ (by kernel_rfl) (by kernel_rfl) ?_
        refine L.move rfl rfl ?_
        refine L.addN rfl rfl rfl (by omega) ?_
        refine L.move rfl rfl ?_
        refine L.ltI rfl rfl rfl ?_
        refine L.move rfl rfl ?_
        refine L.known (t := 23) rfl (show _ = Value.bool false from congrArg Value.bool (decide_eq_false (by omega))) ?_
        refine L.guardF (dj := 23) (c := false) rfl rfl rfl rfl rfl (by decide) ?_
        refine L.guardF (dj := 23) (c := false) rfl rfl rfl rfl rfl (by decide) ?_
        refine L.guardF (dj := 23) (c := false) rfl rfl rfl rfl rfl (by decide) ?_
        refine L.guardF (dj := 23) (c := false) rfl rfl rfl rfl rfl (by decide) ?_
        refine L.guardF (dj := 23) (c := false) rfl rfl rfl rfl rfl (by decide) ?_
        refine L.guardF (dj := 23) (c := false) rfl rfl rfl rfl rfl (by decide) ?_
        refine L.guardF (dj := 23) (c := false) rfl rfl rfl rfl rfl (by decide) ?_
        refine L.guardF (dj := 23) (c := false) rfl rfl rfl rfl rfl (by decide) ?_
        refine L.guardF (dj := 23) (c := false) rfl rfl rfl rfl rfl (by decide) ?_
        refine L.guardF (dj := 23) (c := false) rfl rfl rfl rfl rfl (by decide) ?_
        refine L.guardF (dj := 23) (c := false) rfl rfl rfl rfl rfl (by decide) ?_
        refine L.guardF (dj := 23) (c := false) rfl rfl rfl rfl rfl (by decide) ?_
        refine L.guardF (dj := 23) (c := false) rfl rfl rfl rfl rfl (by decide) ?_
        refine L.guardF (dj := 23) (c := false) rfl rfl rfl rfl rfl (by decide) ?_
        refine L.guardF (dj := 23) (c := false) rfl rfl rfl rfl rfl (by decide) ?_
        refine L.guardF (dj := 23) (c := false) rfl rfl rfl rfl rfl (by decide) ?_
        refine L.pickF rfl rfl rfl ?_
        refine L.nilQ ?_
        refine T.thenN ?_
        exact T.toJoin ⟨_, ⟨fun e => (by cases e), fun _ e => absurd e (by omega)⟩, rfl, rfl, rfl⟩ (.cons (t := 40) rfl <| SubK.nil _) (.cons (t := 0) rfl <| .cons (t := 2) rfl <| .cons (t := 3) rfl <| .cons (t := 4) rfl <| .cons (t := 10) rfl <| .cons (t := 11) rfl <| SubK.nil _) qD qD qF
    rintro _ _ _ ⟨w, ⟨hw1, hw2⟩, rfl, rfl, rfl⟩
    refine T.norm3 qA qA qA ?_
    refine T.thenN ?_
    refine T.cutC (fun K' D' M' => ∃ (m : Nat), ((m = 2 * r + 1 ∨ m = 2 * r + 2) ∧ m < hi ∧ ∀ o, (o = 2 * r + 1 ∨ o = 2 * r + 2) → o < hi → ¬ cf (gd zs (f + m)) (gd zs (f + o)) < 0) ∧ K' = [(11, .int .i64 (m : Int))] ∧ D' = [] ∧ M' = []) (M0 := []) (.cons (t := 0) rfl <| .cons (t := 2) rfl <| .cons (t := 3) rfl <| .cons (t := 4) rfl <| .cons (t := 10) rfl <| SubK.nil _) qS ?_ ?_
    · skip
      refine T.cond rfl (fun h40 => ?_) (fun h40 => ?_)
      · try simp only [decide_eq_true_eq, decide_eq_false_iff_not, Bool.not_eq_true', Bool.not_eq_false', Bool.and_eq_true, Bool.or_eq_true] at h40
        refine T.region ?_
        refine L.move rfl rfl ?_
        refine L.addN rfl rfl rfl (by omega) ?_
        refine L.known (t := 42) (u := .int .i64 ((2 * r + 1 + 1 : Nat) : Int)) rfl (congrArg (Value.int .i64) (by omega)) ?_
        refine L.assign rfl rfl ?_
        refine L.nil ?_
        refine T.thenN ?_
        exact T.toJoin ⟨2 * r + 1 + 1, ⟨.inr rfl, (hw1 h40).1, fun o ho hoh => (by rcases ho with rfl | rfl <;> first | exact hO.asym _ _ (hw1 h40).2 | exact hI _)⟩, rfl, rfl, rfl⟩ (.cons (t := 11) rfl <| SubK.nil _) (.cons (t := 0) rfl <| .cons (t := 2) rfl <| .cons (t := 3) rfl <| .cons (t := 4) rfl <| .cons (t := 10) rfl <| SubK.nil _) qD qD qF
      · try simp only [decide_eq_true_eq, decide_eq_false_iff_not, Bool.not_eq_true', Bool.not_eq_false', Bool.and_eq_true, Bool.or_eq_true] at h40
        refine T.skip ?_
        refine T.thenN ?_
        exact T.toJoin ⟨2 * r + 1, ⟨.inl rfl, (by omega), fun o ho hoh => (by rcases ho with rfl | rfl <;> first | exact hI _ | exact hw2 h40 (by omega))⟩, rfl, rfl, rfl⟩ (.cons (t := 11) rfl <| SubK.nil _) (.cons (t := 0) rfl <| .cons (t := 2) rfl <| .cons (t := 3) rfl <| .cons (t := 4) rfl <| .cons (t := 10) rfl <| SubK.nil _) qD qD qF
    rintro _ _ _ ⟨m, ⟨hm1, hm2, hm3⟩, rfl, rfl, rfl⟩
    refine T.norm3 qA qA qA ?_
    refine T.thenN ?_
    refine T.seq ?_
    refine T.seq ?_
    have hg0 : zs[f + r]? = some (gd zs (f + r)) := gd_get (by omega)
    have hw0 := iC_len (gd zs (f + r))
    have hg1 : zs[f + m]? = some (gd zs (f + m)) := gd_get (by omega)
    have hw1 := iC_len (gd zs (f + m))
    refine T.regionQ (by kernel_rfl) (by kernel_rfl) ?_
    refine L.move rfl rfl ?_
    refine L.move rfl rfl ?_
    refine L.move rfl rfl ?_
    refine L.move rfl rfl ?_
    refine L.addN rfl rfl rfl (by omega) ?_
    refine L.idxG (i := f + r) rfl Try.underlying34 sz28 rfl rfl (by first | rfl | omega | (simp; done)) qI ?_
    refine L.loadA rfl ag28 rfl (CellsN.ofOwn qM (map_get hg0) hw0) ?_
    refine L.move rfl rfl ?_
    refine L.move rfl rfl ?_
    refine L.move rfl rfl ?_
    refine L.addN rfl rfl rfl (by omega) ?_
    refine L.idxG (i := f + m) rfl Try.underlying34 sz28 rfl rfl (by first | rfl | omega | (simp; done)) qI ?_
    refine L.loadA rfl ag28 rfl (CellsN.ofOwn qM (map_get hg1) hw1) ?_
    refine L.callVF rfl rfl (evs.cons rfl <| evs.cons rfl <| evs.nil) qD qS (hc (gd zs (f + r)) (gd zs (f + m))) (by rintro u D1 M1 ⟨rfl, rfl, rfl⟩; exact ⟨rfl, _, qA, qF⟩) ?_
    refine L.ltI rfl rfl rfl ?_
    refine L.notB rfl rfl ?_
    refine L.nilQ ?_
    refine T.thenN ?_
    refine T.cond rfl (fun h58 => ?_) (fun h58 => ?_)
    · try simp only [decide_eq_true_eq, decide_eq_false_iff_not, Bool.not_eq_true', Bool.not_eq_false', Bool.and_eq_true, Bool.or_eq_true] at h58
      have hend := hB.stop hO hm3 h58
      refine T.ret ?_
      refine T.thenR ?_
      refine T.blkR ?_
      refine T.thenR ?_
      refine T.blkR ?_
      exact T.retN (by simp) rfl ⟨zs, rfl, hP, hend, rfl, rfl⟩ qD qF
    · try simp only [decide_eq_true_eq, decide_eq_false_iff_not, Bool.not_eq_true', Bool.not_eq_false', Bool.and_eq_true, Bool.or_eq_true] at h58
      refine T.skip ?_
      refine T.thenN ?_
      refine T.seq ?_
      have hg0 : zs[f + r]? = some (gd zs (f + r)) := gd_get (by omega)
      have hw0 := iC_len (gd zs (f + r))
      have hg1 : zs[f + m]? = some (gd zs (f + m)) := gd_get (by omega)
      have hw1 := iC_len (gd zs (f + m))
      refine T.regionA (clsL [1, 1, 1, 1, 1, 1, 1, 1, 1, 1, 1, 1, 1, 0, 1, 1, 1, 1, 1, 0, 1, 2, 1, 2]) (by kernel_rfl) ?_
      refine A.takeP (i := 0) rfl rfl rfl rfl (by kernel_rfl) (by kernel_rfl) (by kernel_rfl) rfl qD ?_
      refine L.move rfl rfl ?_
      refine A.took ?_
      refine A.takeP (i := 1) rfl rfl rfl rfl (by kernel_rfl) (by kernel_rfl) (by kernel_rfl) rfl qD ?_
      refine L.move rfl rfl ?_
      refine A.took ?_
      refine A.takeP (i := 2) rfl rfl rfl rfl (by kernel_rfl) (by kernel_rfl) (by kernel_rfl) rfl qD ?_
      refine L.move rfl rfl ?_
      refine A.took ?_
      refine A.takeP (i := 3) rfl rfl rfl rfl (by kernel_rfl) (by kernel_rfl) (by kernel_rfl) rfl qD ?_
      refine L.addN rfl rfl rfl (by omega) ?_
      refine A.took ?_
      refine A.takeP (i := 4) rfl rfl rfl rfl (by kernel_rfl) (by kernel_rfl) (by kernel_rfl) rfl qD ?_
      refine L.move rfl rfl ?_
      refine A.took ?_
      refine A.takeP (i := 5) rfl rfl rfl rfl (by kernel_rfl) (by kernel_rfl) (by kernel_rfl) rfl qD ?_
      refine L.move rfl rfl ?_
      refine A.took ?_
      refine A.takeP (i := 6) rfl rfl rfl rfl (by kernel_rfl) (by kernel_rfl) (by kernel_rfl) rfl qD ?_
      refine L.move rfl rfl ?_
      refine A.took ?_
      refine A.takeP (i := 7) rfl rfl rfl rfl (by kernel_rfl) (by kernel_rfl) (by kernel_rfl) rfl qD ?_
      refine L.addN rfl rfl rfl (by omega) ?_
      refine A.took ?_
      refine A.takeP (i := 8) rfl rfl rfl rfl (by kernel_rfl) (by kernel_rfl) (by kernel_rfl) rfl qD ?_
      refine L.move rfl rfl ?_
      refine A.took ?_
      refine A.takeP (i := 9) rfl rfl rfl rfl (by kernel_rfl) (by kernel_rfl) (by kernel_rfl) rfl qD ?_
      refine L.move rfl rfl ?_
      refine A.took ?_
      refine A.takeP (i := 10) rfl rfl rfl rfl (by kernel_rfl) (by kernel_rfl) (by kernel_rfl) rfl qD ?_
      refine L.move rfl rfl ?_
      refine A.took ?_
      refine A.takeP (i := 11) rfl rfl rfl rfl (by kernel_rfl) (by kernel_rfl) (by kernel_rfl) rfl qD ?_
      refine L.addN rfl rfl rfl (by omega) ?_
      refine A.took ?_
      refine A.takeP (i := 12) rfl rfl rfl rfl (by kernel_rfl) (by kernel_rfl) (by kernel_rfl) rfl qD ?_
      refine L.idxG (i := f + m) rfl Try.underlying34 sz28 rfl rfl (by first | rfl | omega | (simp; done)) qI ?_
      refine A.took ?_
      refine A.takeP (i := 14) rfl rfl rfl rfl (by kernel_rfl) (by kernel_rfl) (by kernel_rfl) rfl qD ?_
      refine L.move rfl rfl ?_
      refine A.took ?_
      refine A.takeP (i := 15) rfl rfl rfl rfl (by kernel_rfl) (by kernel_rfl) (by kernel_rfl) rfl qD ?_
      refine L.move rfl rfl ?_
      refine A.took ?_
      refine A.takeP (i := 16) rfl rfl rfl rfl (by kernel_rfl) (by kernel_rfl) (by kernel_rfl) rfl qD ?_
      refine L.move rfl rfl ?_
      refine A.took ?_
      refine A.takeP (i := 17) rfl rfl rfl rfl (by kernel_rfl) (by kernel_rfl) (by kernel_rfl) rfl qD ?_
      refine L.addN rfl rfl rfl (by omega) ?_
      refine A.took ?_
      refine A.takeP (i := 18) rfl rfl rfl rfl (by kernel_rfl) (by kernel_rfl) (by kernel_rfl) rfl qD ?_
      refine L.idxG (i := f + r) rfl Try.underlying34 sz28 rfl rfl (by first | rfl | omega | (simp; done)) qI ?_
      refine A.took ?_
      refine A.take (i := 13) rfl rfl rfl rfl (by kernel_rfl) (by kernel_rfl) (by kernel_rfl) (by kernel_rfl) rfl qD qF ?_
      refine L.loadA rfl ag28 rfl (CellsN.ofOwn qM (map_get hg1) hw1) ?_
      refine A.took ?_
      refine A.take (i := 19) rfl rfl rfl rfl (by kernel_rfl) (by kernel_rfl) (by kernel_rfl) (by kernel_rfl) rfl qD qF ?_
      refine L.loadA rfl ag28 rfl (CellsN.ofOwn qM (map_get hg0) hw0) ?_
      refine A.took ?_
      refine A.takeP (i := 20) rfl rfl rfl rfl (by kernel_rfl) (by kernel_rfl) (by kernel_rfl) rfl qD ?_
      refine L.idxG (i := f + r) rfl Try.underlying34 sz28 rfl rfl (by first | rfl | omega | (simp; done)) qI ?_
      refine A.took ?_
      refine A.branch (is := [21]) (by kernel_rfl) (by decide) (Each.cons rfl ?_ <| Each.nil) 
      refine L.storeOA (f + r) ag28 rfl (by first | rfl | omega | (simp; done)) rfl qL qO qP qI ?_
      refine A.backT rfl qD ?_
      refine A.takeP (i := 22) rfl rfl rfl rfl (by kernel_rfl) (by kernel_rfl) (by kernel_rfl) rfl qD ?_
      refine L.idxG (i := f + m) rfl Try.underlying34 sz28 rfl rfl (by first | rfl | omega | (simp; done)) qI ?_
      refine A.took ?_
      refine A.branch (is := [23]) (by kernel_rfl) (by decide) (Each.cons rfl ?_ <| Each.nil) 
      refine L.storeOA (f + m) ag28 rfl (by first | rfl | omega | (simp; done)) rfl qL qO qP qI ?_
      refine A.backT rfl qD ?_
      refine A.done (by kernel_rfl) ?_
      refine T.ownEq _ ((sw zs (f + r) (f + m)).map iC) qP (by rw [sw, List.map_set, List.map_set]) ?_
      refine T.thenN ?_
      refine T.region ?_
      refine L.move rfl rfl ?_
      refine L.assign rfl rfl ?_
      refine L.nil ?_
      refine T.blkN ?_
      refine T.thenN ?_
      exact T.back ⟨m, sw zs (f + r) (f + m), ⟨by omega, hP.trans (.sw (by omega) (by omega) (by omega) (by omega) (by omega)), hB.swap hO (by omega) (by omega) hm1 hm2 hm3 h58⟩, rfl, rfl, rfl, rfl⟩ qI (.cons (t := 10) rfl <| SubK.nil _) (.cons (t := 0) rfl <| .cons (t := 2) rfl <| .cons (t := 3) rfl <| .cons (t := 4) rfl <| SubK.nil _) qD qD qF
set_option maxHeartbeats 400000 in
theorem heap_spec {g pb po len cap : Nat} {cf : ID32 → ID32 → Int} {xs : List ID32} (hO : SWO cf) (hI : ∀ x : ID32, ¬ cf x x < 0) (hc : ∀ x y : ID32, Spec Try.prog g [.agg (iC x).toArray, .agg (iC y).toArray] [] [] (fun u D' M' => u = .int .i64 (cf x y) ∧ D' = [] ∧ M' = [])) {ia ib : Nat} (hab : ia < ib) (hib : ib ≤ len) (hb : len ≤ 1000000) : Spec Try.prog 54 [.slice (some ⟨pb, po, none⟩) len cap, .int .i64 (ia : Int), .int .i64 (ib : Int), fnV g []] [] [own 32 28 (some ⟨pb, po, none⟩) len cap ((xs).map iC)] (fun v D' M' => ∃ (ys : List ID32), v = .tuple #[] ∧ (PI ia ib xs ys) ∧ (SrtP cf ys ia ib) ∧ D' = [] ∧ M' = [own 32 28 (some ⟨pb, po, none⟩) len cap ((ys).map iC)]) := by
  refine Spec.intro (n := 60) Try.func54 rfl rfl (by decide) (Nat.le_of_ble_eq_true rfl) rfl (fun _ => qA) (fun _ => qA) ?_
  intro σ D M
  refine T.ownLen qM (fun hl hcc => ?_)
  rw [List.length_map] at hl
  obtain ⟨n, hn⟩ : ∃ n, n = ib - ia := ⟨_, rfl⟩
  refine T.seq ?_
  refine T.region ?_
  refine L.move rfl rfl ?_
  refine L.assign rfl rfl ?_
  refine L.nil ?_
  refine T.thenN ?_
  refine T.seq ?_
  refine T.region ?_
  refine L.assign rfl rfl ?_
  refine L.nil ?_
  refine T.thenN ?_
  refine T.seq ?_
  refine T.region ?_
  refine L.move rfl rfl ?_
  refine L.move rfl rfl ?_
  refine L.subN rfl rfl rfl (by omega) ?_
  refine L.known (t := 16) (u := .int .i64 ((n : Nat) : Int)) rfl (congrArg (Value.int .i64) (by omega)) ?_
  refine L.assign rfl rfl ?_
  refine L.nil ?_
  refine T.thenN ?_
  refine T.seq ?_
  refine T.seq ?_
  refine T.region ?_
  refine L.move rfl rfl ?_
  refine L.subN rfl rfl rfl (by omega) ?_
  refine L.quoN rfl rfl rfl qI ?_
  refine L.known (t := 19) (u := .int .i64 ((((n - 1) / 2 + 1 : Nat) : Int) - 1)) rfl (congrArg (Value.int .i64) (by omega)) ?_
  refine L.assign rfl rfl ?_
  refine L.nil ?_
  refine T.thenN ?_
  refine T.block ?_
  refine T.loop (fun K' D' M' μ => ∃ (k1 : Nat) (zs : List ID32), (k1 ≤ n ∧ PI ia ib xs zs ∧ Heap cf zs ia k1 n) ∧ K' = [(11, .int .i64 ((k1 : Int) - 1))] ∧ D' = [] ∧ M' = [own 32 28 (some ⟨pb, po, none⟩) len cap ((zs).map iC)] ∧ μ = 2 * k1) (.cons (t := 0) rfl <| .cons (t := 3) rfl <| .cons (t := 8) rfl <| .cons (t := 9) rfl <| .cons (t := 10) rfl <| SubK.nil _) (⟨(n - 1) / 2 + 1, xs, ⟨by omega, .refl _ _ _, .last (by omega)⟩, rfl, rfl, rfl, rfl⟩) (.cons (t := 11) rfl <| SubK.nil _) qD qS ?_
  rintro K1 D1 M1 m1 ⟨k1, zs, ⟨hk, hP, hH⟩, rfl, rfl, rfl, rfl⟩
  refine T.norm3 qA qA qA ?_
  have hzl := hP.len
  refine T.seq ?_
  refine T.seq ?_
  refine T.region ?_
  refine L.move rfl rfl ?_
  refine L.geI rfl rfl rfl ?_
  refine L.nil ?_
  refine T.thenN ?_
  refine T.cond rfl (fun h21 => ?_) (fun h21 => ?_)
  · try simp only [decide_eq_true_eq, decide_eq_false_iff_not, Bool.not_eq_true', Bool.not_eq_false', Bool.and_eq_true, Bool.or_eq_true] at h21
    obtain ⟨k, rfl⟩ : ∃ k, k1 = k + 1 := ⟨k1 - 1, by omega⟩
    refine T.skip ?_
    refine T.thenN ?_
    refine T.seq ?_
    refine T.block ?_
    refine T.region ?_
    refine L.move rfl rfl ?_
    refine L.move rfl rfl ?_
    refine L.known (t := 25) (u := .int .i64 ((k : Nat) : Int)) rfl (congrArg (Value.int .i64) (by omega)) ?_
    refine L.move rfl rfl ?_
    refine L.move rfl rfl ?_
    refine L.move rfl rfl ?_
    refine L.call rfl (evs.cons rfl <| evs.cons rfl <| evs.cons rfl <| evs.cons rfl <| evs.cons rfl <| evs.nil) qD qS (sift_spec hO hI hc (lo := k) (hi := n) (f := ia) hH (by omega) hb (by omega)) ?_
    rintro _ _ _ ⟨ys, rfl, hP1, hH1, rfl, rfl⟩
    refine L.norm qA qA ?_
    refine L.nil ?_
    refine T.blkN ?_
    refine T.thenN ?_
    refine T.region ?_
    refine L.move rfl rfl ?_
    refine L.subN rfl rfl rfl (by omega) ?_
    refine L.known (t := 23) (u := .int .i64 ((k : Int) - 1)) rfl (congrArg (Value.int .i64) (by omega)) ?_
    refine L.assign rfl rfl ?_
    refine L.nil ?_
    refine T.thenN ?_
    exact T.back ⟨k, ys, ⟨by omega, hP.trans (hP1.wide (by omega) (by omega)), hH1⟩, rfl, rfl, rfl, rfl⟩ qI (.cons (t := 11) rfl <| SubK.nil _) (.cons (t := 0) rfl <| .cons (t := 3) rfl <| .cons (t := 8) rfl <| .cons (t := 9) rfl <| .cons (t := 10) rfl <| SubK.nil _) qD qD qF
  · try simp only [decide_eq_true_eq, decide_eq_false_iff_not, Bool.not_eq_true', Bool.not_eq_false', Bool.and_eq_true, Bool.or_eq_true] at h21
    obtain rfl : k1 = 0 := by omega
    refine T.exit ?_
    refine T.thenX ?_
    refine T.thenX ?_
    refine T.blkX ?_
    refine T.thenN ?_
    refine T.seq ?_
    refine T.region ?_
    refine L.move rfl rfl ?_
    refine L.subN rfl rfl rfl (by omega) ?_
    refine L.assign rfl rfl ?_
    refine L.nil ?_
    refine T.thenN ?_
    refine T.block ?_
    refine T.loop (fun K' D' M' μ => ∃ (k1 : Nat) (zs : List ID32), (k1 ≤ n ∧ PI ia ib xs zs ∧ Heap cf zs ia 0 k1 ∧ Tail cf zs ia k1 n) ∧ K' = [(12, .int .i64 ((k1 : Int) - 1))] ∧ D' = [] ∧ M' = [own 32 28 (some ⟨pb, po, none⟩) len cap ((zs).map iC)] ∧ μ = 2 * k1) (.cons (t := 0) rfl <| .cons (t := 3) rfl <| .cons (t := 8) rfl <| .cons (t := 9) rfl <| SubK.nil _) (⟨n, zs, ⟨by omega, hP, hH, fun p q h1 h2 h3 => absurd h3 (by omega)⟩, rfl, rfl, rfl, rfl⟩) (.cons (t := 12) rfl <| SubK.nil _) qD qS ?_
    rintro K1 D1 M1 m1 ⟨k1, zs, ⟨hk, hP, hH, hT⟩, rfl, rfl, rfl, rfl⟩
    refine T.norm3 qA qA qA ?_
    have hzl := hP.len
    refine T.seq ?_
    refine T.seq ?_
    refine T.region ?_
    refine L.move rfl rfl ?_
    refine L.geI rfl rfl rfl ?_
    refine L.nil ?_
    refine T.thenN ?_
    refine T.cond rfl (fun h33 => ?_) (fun h33 => ?_)
    · try simp only [decide_eq_true_eq, decide_eq_false_iff_not, Bool.not_eq_true', Bool.not_eq_false', Bool.and_eq_true, Bool.or_eq_true] at h33
      obtain ⟨k, rfl⟩ : ∃ k, k1 = k + 1 := ⟨k1 - 1, by omega⟩
      refine T.skip ?_
      refine T.thenN ?_
      refine T.seq ?_
      refine T.block ?_
      refine T.seq ?_
      have hg0 : zs[ia]? = some (gd zs (ia)) := gd_get (by omega)
      have hw0 := iC_len (gd zs (ia))
      have hg1 : zs[ia + k]? = some (gd zs (ia + k)) := gd_get (by omega)
      have hw1 := iC_len (gd zs (ia + k))
      refine T.regionA (clsL [1, 1, 1, 1, 1, 1, 1, 1, 1, 1, 1, 0, 1, 1, 1, 0, 1, 2, 1, 2]) (by kernel_rfl) ?_
      refine A.takeP (i := 0) rfl rfl rfl rfl (by kernel_rfl) (by kernel_rfl) (by kernel_rfl) rfl qD ?_
      refine L.move rfl rfl ?_
      refine A.took ?_
      refine A.takeP (i := 1) rfl rfl rfl rfl (by kernel_rfl) (by kernel_rfl) (by kernel_rfl) rfl qD ?_
      refine L.move rfl rfl ?_
      refine A.took ?_
      refine A.takeP (i := 2) rfl rfl rfl rfl (by kernel_rfl) (by kernel_rfl) (by kernel_rfl) rfl qD ?_
      refine L.move rfl rfl ?_
      refine A.took ?_
      refine A.takeP (i := 3) rfl rfl rfl rfl (by kernel_rfl) (by kernel_rfl) (by kernel_rfl) rfl qD ?_
      refine L.move rfl rfl ?_
      refine A.took ?_
      refine A.takeP (i := 4) rfl rfl rfl rfl (by kernel_rfl) (by kernel_rfl) (by kernel_rfl) rfl qD ?_
      refine L.move rfl rfl ?_
      refine L.known (t := 40) (u := .int .i64 ((k : Nat) : Int)) rfl (congrArg (Value.int .i64) (by omega)) ?_
      refine A.took ?_
      refine A.takeP (i := 5) rfl rfl rfl rfl (by kernel_rfl) (by kernel_rfl) (by kernel_rfl) rfl qD ?_
      refine L.addN rfl rfl rfl (by omega) ?_
      refine A.took ?_
      refine A.takeP (i := 6) rfl rfl rfl rfl (by kernel_rfl) (by kernel_rfl) (by kernel_rfl) rfl qD ?_
      refine L.move rfl rfl ?_
      refine A.took ?_
      refine A.takeP (i := 7) rfl rfl rfl rfl (by kernel_rfl) (by kernel_rfl) (by kernel_rfl) rfl qD ?_
      refine L.move rfl rfl ?_
      refine A.took ?_
      refine A.takeP (i := 8) rfl rfl rfl rfl (by kernel_rfl) (by kernel_rfl) (by kernel_rfl) rfl qD ?_
      refine L.move rfl rfl ?_
      refine L.known (t := 44) (u := .int .i64 ((k : Nat) : Int)) rfl (congrArg (Value.int .i64) (by omega)) ?_
      refine A.took ?_
      refine A.takeP (i := 9) rfl rfl rfl rfl (by kernel_rfl) (by kernel_rfl) (by kernel_rfl) rfl qD ?_
      refine L.addN rfl rfl rfl (by omega) ?_
      refine A.took ?_
      refine A.takeP (i := 10) rfl rfl rfl rfl (by kernel_rfl) (by kernel_rfl) (by kernel_rfl) rfl qD ?_
      refine L.idxG (i := ia + k) rfl Try.underlying34 sz28 rfl rfl (by first | rfl | omega | (simp; done)) qI ?_
      refine A.took ?_
      refine A.takeP (i := 12) rfl rfl rfl rfl (by kernel_rfl) (by kernel_rfl) (by kernel_rfl) rfl qD ?_
      refine L.move rfl rfl ?_
      refine A.took ?_
      refine A.takeP (i := 13) rfl rfl rfl rfl (by kernel_rfl) (by kernel_rfl) (by kernel_rfl) rfl qD ?_
      refine L.move rfl rfl ?_
      refine A.took ?_
      refine A.takeP (i := 14) rfl rfl rfl rfl (by kernel_rfl) (by kernel_rfl) (by kernel_rfl) rfl qD ?_
      refine L.idxG (i := ia) rfl Try.underlying34 sz28 rfl rfl (by first | rfl | omega | (simp; done)) qI ?_
      refine A.took ?_
      refine A.take (i := 11) rfl rfl rfl rfl (by kernel_rfl) (by kernel_rfl) (by kernel_rfl) (by kernel_rfl) rfl qD qF ?_
      refine L.loadA rfl ag28 rfl (CellsN.ofOwn qM (map_get hg1) hw1) ?_
      refine A.took ?_
      refine A.take (i := 15) rfl rfl rfl rfl (by kernel_rfl) (by kernel_rfl) (by kernel_rfl) (by kernel_rfl) rfl qD qF ?_
      refine L.loadA rfl ag28 rfl (CellsN.ofOwn qM (map_get hg0) hw0) ?_
      refine A.took ?_
      refine A.takeP (i := 16) rfl rfl rfl rfl (by kernel_rfl) (by kernel_rfl) (by kernel_rfl) rfl qD ?_
      refine L.idxG (i := ia) rfl Try.underlying34 sz28 rfl rfl (by first | rfl | omega | (simp; done)) qI ?_
      refine A.took ?_
      refine A.branch (is := [17]) (by kernel_rfl) (by decide) (Each.cons rfl ?_ <| Each.nil) 
      refine L.storeOA (ia) ag28 rfl (by first | rfl | omega | (simp; done)) rfl qL qO qP qI ?_
      refine A.backT rfl qD ?_
      refine A.takeP (i := 18) rfl rfl rfl rfl (by kernel_rfl) (by kernel_rfl) (by kernel_rfl) rfl qD ?_
      refine L.idxG (i := ia + k) rfl Try.underlying34 sz28 rfl rfl (by first | rfl | omega | (simp; done)) qI ?_
      refine A.took ?_
      refine A.branch (is := [19]) (by kernel_rfl) (by decide) (Each.cons rfl ?_ <| Each.nil) 
      refine L.storeOA (ia + k) ag28 rfl (by first | rfl | omega | (simp; done)) rfl qL qO qP qI ?_
      refine A.backT rfl qD ?_
      refine A.done (by kernel_rfl) ?_
      refine T.ownEq _ ((sw zs (ia) (ia + k)).map iC) qP (by rw [sw, List.map_set, List.map_set]) ?_
      have hTp := hT.pop hO hI hH (by omega) (by omega)
      refine T.thenN ?_
      refine T.region ?_
      refine L.move rfl rfl ?_
      refine L.move rfl rfl ?_
      refine L.move rfl rfl ?_
      refine L.known (t := 56) (u := .int .i64 ((k : Nat) : Int)) rfl (congrArg (Value.int .i64) (by omega)) ?_
      refine L.move rfl rfl ?_
      refine L.move rfl rfl ?_
      refine L.call rfl (evs.cons rfl <| evs.cons rfl <| evs.cons rfl <| evs.cons rfl <| evs.cons rfl <| evs.nil) qD qS (sift_spec hO hI hc (xs := sw zs ia (ia + k)) (lo := 0) (hi := k) (f := ia) hTp.2 (by omega) hb (by omega)) ?_
      rintro _ _ _ ⟨ys, rfl, hP1, hH1, rfl, rfl⟩
      refine L.norm qA qA ?_
      refine L.nil ?_
      refine T.blkN ?_
      refine T.thenN ?_
      refine T.region ?_
      refine L.move rfl rfl ?_
      refine L.subN rfl rfl rfl (by omega) ?_
      refine L.known (t := 35) (u := .int .i64 ((k : Int) - 1)) rfl (congrArg (Value.int .i64) (by omega)) ?_
      refine L.assign rfl rfl ?_
      refine L.nil ?_
      refine T.thenN ?_
      exact T.back ⟨k, ys, ⟨by omega, (hP.trans (ys := zs) (zs := sw zs ia (ia + k)) (.sw (by omega) (by omega) (by omega) (by omega) (by omega))).trans (hP1.wide (by omega) (by omega)), hH1, hTp.1.pi hP1⟩, rfl, rfl, rfl, rfl⟩ qI (.cons (t := 12) rfl <| SubK.nil _) (.cons (t := 0) rfl <| .cons (t := 3) rfl <| .cons (t := 8) rfl <| .cons (t := 9) rfl <| SubK.nil _) qD qD qF
    · try simp only [decide_eq_true_eq, decide_eq_false_iff_not, Bool.not_eq_true', Bool.not_eq_false', Bool.and_eq_true, Bool.or_eq_true] at h33
      obtain rfl : k1 = 0 := by omega
      refine T.exit ?_
      refine T.thenX ?_
      refine T.thenX ?_
      refine T.blkX ?_
      exact T.retN (by simp) rfl ⟨zs, rfl, hP, hT.all (by omega), rfl, rfl⟩ qD qF
end Cv
