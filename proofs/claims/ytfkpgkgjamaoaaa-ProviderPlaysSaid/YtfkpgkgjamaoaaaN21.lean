/-
  The walks: the names, where there is one at most.
-/
import Derived.Test.YtfkpgkgjamaoaaaM21
import Derived.Test.YtfkpgkgjamaoaaaProg
import Derived.KernelRfl
set_option linter.unusedVariables false
set_option linter.unusedSimpArgs false
set_option linter.unusedSectionVars false
set_option maxRecDepth 10000
namespace Cv
open Go Go.Proofs
theorem zv28 : ∀ w, (zeroValue 28).run Try.prog w = .ok (Value.agg #[Value.int .u8 0, Value.int .u8 0, Value.int .u8 0, Value.int .u8 0, Value.int .u8 0, Value.int .u8 0, Value.int .u8 0, Value.int .u8 0, Value.int .u8 0, Value.int .u8 0, Value.int .u8 0, Value.int .u8 0, Value.int .u8 0, Value.int .u8 0, Value.int .u8 0, Value.int .u8 0, Value.int .u8 0, Value.int .u8 0, Value.int .u8 0, Value.int .u8 0, Value.int .u8 0, Value.int .u8 0, Value.int .u8 0, Value.int .u8 0, Value.int .u8 0, Value.int .u8 0, Value.int .u8 0, Value.int .u8 0, Value.int .u8 0, Value.int .u8 0, Value.int .u8 0, Value.int .u8 0]) w := fun w => by kernel_rfl
theorem ze28 : Ze Try.prog 28 ((List.replicate 32 (0 : UInt8)).map Y) := ⟨_, rfl, zv28⟩
theorem el28 : El Try.prog 28 32 32 := ⟨_, _, rfl, rfl, by kernel_rfl, by kernel_rfl, by kernel_rfl⟩
theorem sc34 : Sc Try.prog 34 := fun w => ⟨by kernel_rfl, by kernel_rfl⟩
theorem bs34 : Bs Try.prog 34 28 32 (Value.int .u8 0 :: Value.int .u8 0 :: Value.int .u8 0 :: Value.int .u8 0 :: Value.int .u8 0 :: Value.int .u8 0 :: Value.int .u8 0 :: Value.int .u8 0 :: Value.int .u8 0 :: Value.int .u8 0 :: Value.int .u8 0 :: Value.int .u8 0 :: Value.int .u8 0 :: Value.int .u8 0 :: Value.int .u8 0 :: Value.int .u8 0 :: Value.int .u8 0 :: Value.int .u8 0 :: Value.int .u8 0 :: Value.int .u8 0 :: Value.int .u8 0 :: Value.int .u8 0 :: Value.int .u8 0 :: Value.int .u8 0 :: Value.int .u8 0 :: Value.int .u8 0 :: Value.int .u8 0 :: Value.int .u8 0 :: Value.int .u8 0 :: Value.int .u8 0 :: Value.int .u8 0 :: Value.int .u8 0 :: []) := bs_of Try.underlying34 (fun w => by kernel_rfl) zv28 rfl rfl (by decide)
set_option maxHeartbeats 400000 in
theorem len64_spec {n : Nat} (hn : n ≤ 255) : Spec Try.prog 52 [.int .u64 (n : Int)] [] [] (fun v D' M' => ∃ (k : Int), v = .int .i64 k ∧ D' = [] ∧ M' = []) := by
  refine Spec.intro (n := 25) Try.func52 rfl rfl (by decide) (Nat.le_of_ble_eq_true rfl) rfl (fun _ => qA) (fun _ => qA) ?_
  intro σ D M
  refine T.seq ?_
  refine T.region ?_
  refine L.assign rfl rfl ?_
  refine L.nil ?_
  refine T.thenN ?_
  refine T.seq ?_
  refine T.seq ?_
  refine T.region ?_
  refine L.move rfl rfl ?_
  refine L.geI rfl rfl rfl ?_
  refine L.nil ?_
  refine T.thenN ?_
  refine T.condF rfl (decide_eq_false (by omega)) ?_
  refine T.skip ?_
  refine T.thenN ?_
  refine T.seq ?_
  refine T.seq ?_
  refine T.region ?_
  refine L.move rfl rfl ?_
  refine L.geI rfl rfl rfl ?_
  refine L.nil ?_
  refine T.thenN ?_
  refine T.cond rfl (fun h8 => ?_) (fun h8 => ?_)
  · try simp only [decide_eq_true_eq, decide_eq_false_iff_not, Bool.not_eq_true', Bool.not_eq_false', Bool.and_eq_true, Bool.or_eq_true] at h8
    refine T.seq ?_
    refine T.region ?_
    refine L.move rfl rfl ?_
    refine L.shrI rfl rfl rfl qI ?_
    refine L.assign rfl rfl ?_
    refine L.nil ?_
    refine T.thenN ?_
    refine T.region ?_
    refine L.move rfl rfl ?_
    refine L.addN rfl rfl rfl (by omega) ?_
    refine L.assign rfl rfl ?_
    refine L.nil ?_
    refine T.thenN ?_
    refine T.seq ?_
    refine T.seq ?_
    refine T.region ?_
    refine L.move rfl rfl ?_
    refine L.geI rfl rfl rfl ?_
    refine L.nil ?_
    refine T.thenN ?_
    refine T.condF rfl (decide_eq_false (by omega)) ?_
    refine T.skip ?_
    refine T.thenN ?_
    refine T.seq ?_
    refine T.region ?_
    refine L.move rfl rfl ?_
    refine L.move rfl rfl ?_
    refine L.convIY rfl Try.underlying93 Try.underlying5 rfl ?_
    refine L.indexS (i := (UInt8.ofNat ((n : Int) % 256).toNat).toNat) rfl Try.underlying9 rfl rfl (by first | rfl | omega | (simp; done)) (gd_get (Nat.lt_of_lt_of_eq (UInt8.toNat_lt _) (by rfl))) ?_
    refine L.convU8 rfl Try.underlying5 Try.underlying3 rfl (fun kk hk0 hk9 => ?_)
    refine L.addN rfl rfl rfl (by omega) ?_
    refine L.assign rfl rfl ?_
    refine L.nil ?_
    refine T.thenN ?_
    refine T.ret ?_
    exact T.ret1 rfl rfl ⟨_, rfl, rfl, rfl⟩ qD qF
  · try simp only [decide_eq_true_eq, decide_eq_false_iff_not, Bool.not_eq_true', Bool.not_eq_false', Bool.and_eq_true, Bool.or_eq_true] at h8
    refine T.skip ?_
    refine T.thenN ?_
    refine T.seq ?_
    refine T.seq ?_
    refine T.region ?_
    refine L.move rfl rfl ?_
    refine L.geI rfl rfl rfl ?_
    refine L.nil ?_
    refine T.thenN ?_
    refine T.condF rfl (decide_eq_false (by omega)) ?_
    refine T.skip ?_
    refine T.thenN ?_
    refine T.seq ?_
    refine T.region ?_
    refine L.move rfl rfl ?_
    refine L.move rfl rfl ?_
    refine L.convIY rfl Try.underlying93 Try.underlying5 rfl ?_
    refine L.indexS (i := (UInt8.ofNat ((n : Int) % 256).toNat).toNat) rfl Try.underlying9 rfl rfl (by first | rfl | omega | (simp; done)) (gd_get (Nat.lt_of_lt_of_eq (UInt8.toNat_lt _) (by rfl))) ?_
    refine L.convU8 rfl Try.underlying5 Try.underlying3 rfl (fun kk hk0 hk9 => ?_)
    refine L.addN rfl rfl rfl (by omega) ?_
    refine L.assign rfl rfl ?_
    refine L.nil ?_
    refine T.thenN ?_
    refine T.ret ?_
    exact T.ret1 rfl rfl ⟨_, rfl, rfl, rfl⟩ qD qF
set_option maxHeartbeats 400000 in
theorem len_spec {n : Nat} (hn : n ≤ 255) : Spec Try.prog 39 [.int .u64 (n : Int)] [] [] (fun v D' M' => ∃ (k : Int), v = .int .i64 k ∧ D' = [] ∧ M' = []) := by
  refine Spec.intro (n := 8) Try.func39 rfl rfl (by decide) (Nat.le_of_ble_eq_true rfl) rfl (fun _ => qA) (fun _ => qA) ?_
  intro σ D M
  refine T.seq ?_
  refine T.region ?_
  refine L.assign rfl rfl ?_
  refine L.nil ?_
  refine T.thenN ?_
  refine T.seq ?_
  refine T.condF rfl rfl ?_
  refine T.skip ?_
  refine T.thenN ?_
  refine T.seq ?_
  refine T.region ?_
  refine L.move rfl rfl ?_
  refine L.call rfl (evs.cons rfl <| evs.nil) qD qS (len64_spec qT) ?_
  rintro _ _ _ ⟨k, rfl, rfl, rfl⟩
  refine L.norm qA qA ?_
  refine L.assign rfl rfl ?_
  refine L.nil ?_
  refine T.thenN ?_
  refine T.ret ?_
  exact T.ret1 rfl rfl ⟨_, rfl, rfl, rfl⟩ qD qF
set_option maxHeartbeats 400000 in
theorem ins1_spec {a : Option Addr} {len cap : Nat} {fv : Value} (hb : len ≤ 1) : Spec Try.prog 53 [.slice a len cap, .int .i64 0, .int .i64 (len : Int), fv] [] [] (fun v D' M' => v = .tuple #[] ∧ D' = [] ∧ M' = []) := by
  refine Spec.intro (n := 53) Try.func53 rfl rfl (by decide) (Nat.le_of_ble_eq_true rfl) rfl (fun _ => qA) (fun _ => qA) ?_
  intro σ D M
  refine T.seq ?_
  refine T.region ?_
  refine L.move rfl rfl ?_
  refine L.addN rfl rfl rfl (by omega) ?_
  refine L.assign rfl rfl ?_
  refine L.nil ?_
  refine T.thenN ?_
  refine T.block ?_
  refine T.loop (fun K' D' M' μ => K' = [(8, .int .i64 (0 + 1))] ∧ D' = [] ∧ M' = [] ∧ μ = 0) (.cons (t := 0) rfl <| .cons (t := 1) rfl <| .cons (t := 2) rfl <| .cons (t := 3) rfl <| SubK.nil _) (⟨rfl, rfl, rfl, rfl⟩) (.cons (t := 8) rfl <| SubK.nil _) qD qS ?_
  rintro K1 D1 M1 m1 ⟨rfl, rfl, rfl, rfl⟩
  refine T.norm3 qA qA qA ?_
  refine T.seq ?_
  refine T.seq ?_
  refine T.region ?_
  refine L.move rfl rfl ?_
  refine L.move rfl rfl ?_
  refine L.ltI rfl rfl rfl ?_
  refine L.nil ?_
  refine T.thenN ?_
  refine T.condF rfl (decide_eq_false (by omega)) ?_
  refine T.exit ?_
  refine T.thenX ?_
  refine T.thenX ?_
  refine T.blkX ?_
  exact T.retN (by simp) rfl ⟨rfl, rfl, rfl⟩ qD qF
set_option maxHeartbeats 400000 in
theorem pdq1_spec {a : Option Addr} {len cap : Nat} {fv : Value} {k : Int} (hb : len ≤ 1) : Spec Try.prog 41 [.slice a len cap, .int .i64 0, .int .i64 (len : Int), .int .i64 k, fv] [] [] (fun v D' M' => v = .tuple #[] ∧ D' = [] ∧ M' = []) := by
  refine Spec.intro (n := 148) Try.func41 rfl rfl (by decide) (Nat.le_of_ble_eq_true rfl) rfl (fun _ => qA) (fun _ => qA) ?_
  intro σ D M
  refine T.seq ?_
  refine T.region ?_
  refine L.assign rfl rfl ?_
  refine L.nil ?_
  refine T.thenN ?_
  refine T.seq ?_
  refine T.region ?_
  refine L.assign rfl rfl ?_
  refine L.nil ?_
  refine T.thenN ?_
  refine T.block ?_
  refine T.loop (fun K' D' M' μ => K' = [(1, .int .i64 0), (2, .int .i64 (len : Int)), (3, .int .i64 k), (10, .bool true), (11, .bool true)] ∧ D' = [] ∧ M' = [] ∧ μ = 0) (.cons (t := 0) rfl <| .cons (t := 4) rfl <| SubK.nil _) (⟨rfl, rfl, rfl, rfl⟩) (.cons (t := 1) rfl <| .cons (t := 2) rfl <| .cons (t := 3) rfl <| .cons (t := 10) rfl <| .cons (t := 11) rfl <| SubK.nil _) qD qS ?_
  rintro K1 D1 M1 m1 ⟨rfl, rfl, rfl, rfl⟩
  refine T.norm3 qA qA qA ?_
  refine T.block ?_
  refine T.seq ?_
  refine T.region ?_
  refine L.move rfl rfl ?_
  refine L.move rfl rfl ?_
  refine L.subN rfl rfl rfl (by omega) ?_
  refine L.assign rfl rfl ?_
  refine L.nil ?_
  refine T.thenN ?_
  refine T.seq ?_
  refine T.seq ?_
  refine T.region ?_
  refine L.move rfl rfl ?_
  refine L.leI rfl rfl rfl ?_
  refine L.nil ?_
  refine T.thenN ?_
  refine T.condT rfl (decide_eq_true (by omega)) ?_
  refine T.seq ?_
  refine T.region ?_
  refine L.move rfl rfl ?_
  refine L.move rfl rfl ?_
  refine L.move rfl rfl ?_
  refine L.move rfl rfl ?_
  refine L.call rfl (evs.cons rfl <| evs.cons rfl <| evs.cons rfl <| evs.cons rfl <| evs.nil) qD qS (ins1_spec hb) ?_
  rintro _ _ _ ⟨rfl, rfl, rfl⟩
  refine L.norm qA qA ?_
  refine L.nil ?_
  refine T.thenN ?_
  refine T.ret ?_
  refine T.thenR ?_
  refine T.blkR ?_
  refine T.thenR ?_
  refine T.blkR ?_
  exact T.retN (by simp) rfl ⟨rfl, rfl, rfl⟩ qD qF
set_option maxHeartbeats 400000 in
theorem sort1_spec {a : Option Addr} {len cap : Nat} {fv : Value} (hb : len ≤ 1) : Spec Try.prog 34 [.slice a len cap, fv] [] [] (fun v D' M' => v = .tuple #[] ∧ D' = [] ∧ M' = []) := by
  refine Spec.intro (n := 14) Try.func34 rfl rfl (by decide) (Nat.le_of_ble_eq_true rfl) rfl (fun _ => qA) (fun _ => qA) ?_
  intro σ D M
  refine T.seq ?_
  refine T.region ?_
  refine L.move rfl rfl ?_
  refine L.lenSl rfl Try.underlying34 rfl ?_
  refine L.assign rfl rfl ?_
  refine L.nil ?_
  refine T.thenN ?_
  refine T.region ?_
  refine L.move rfl rfl ?_
  refine L.move rfl rfl ?_
  refine L.move rfl rfl ?_
  refine L.convU rfl Try.underlying3 Try.underlying80 rfl qI ?_
  refine L.call rfl (evs.cons rfl <| evs.nil) qD qS (len_spec (n := len) (by omega)) ?_
  rintro _ _ _ ⟨k, rfl, rfl, rfl⟩
  refine L.norm qA qA ?_
  refine L.move rfl rfl ?_
  refine L.call rfl (evs.cons rfl <| evs.cons rfl <| evs.cons rfl <| evs.cons rfl <| evs.cons rfl <| evs.nil) qD qS (pdq1_spec hb) ?_
  rintro _ _ _ ⟨rfl, rfl, rfl⟩
  refine L.norm qA qA ?_
  refine L.nil ?_
  exact T.retN (by simp) rfl ⟨rfl, rfl, rfl⟩ qD qF
set_option maxHeartbeats 400000 in
theorem keysitI_spec {ml : ML} {m c l : Nat} {ψ : Asn} {J : List ID32 → Asn} (hY : ∀ pre x, (pre.length < ml.length) → YSpec Try.prog l [.agg (x.1.map Y).toArray] [ψ] [J pre] (fun v D' M' => v = .bool true ∧ D' = [] ∧ M' = [J (pre ++ [x])])) : Spec Try.prog 35 [fnY l, .pointer (some ⟨c, 0, none⟩)] [cl c 55 [.map (some m)], ψ] [mp m aK rV2 ml, J []] (fun v D' M' => ∃ (xs : List ID32), v = .tuple #[] ∧ (xs.length = ml.length) ∧ D' = [] ∧ M' = [mp m aK rV2 ml, J xs]) := by
  refine Spec.intro (n := 14) Try.func35 rfl rfl (by decide) (Nat.le_of_ble_eq_true rfl) rfl (fun _ => qA) (fun _ => qA) ?_
  intro σ D M
  refine T.mpNodup (kenc := aK) (venc := rV2) qM (fun hnd => ?_)
  refine T.seq ?_
  refine T.region ?_
  refine L.load rfl sc55 rfl qC ?_
  refine L.range (kenc := aK) (venc := rV2) rfl Try.underlying55 rfl qP (fun it => ?_)
  refine L.nil ?_
  refine T.thenN ?_
  refine T.block ?_
  refine T.loop (fun K' D' M' μ => ∃ (pre rest : List ID32) (cur : Option ID32), (pre.length + rest.length = ml.length) ∧ K' = [] ∧ D' = [] ∧ M' = [mpi m it aK rV2 ml rest cur, J pre] ∧ μ = rest.length) (.cons (t := 0) rfl <| .cons (t := 5) rfl <| SubK.nil _) (⟨[], ml.map Prod.fst, none, (by simp), rfl, rfl, rfl, rfl⟩) (SubK.nil _) qD qS ?_
  rintro K1 D1 M1 m1 ⟨pre, rest, cur, hP, rfl, rfl, rfl, rfl⟩
  refine T.norm3 qA qA qA ?_
  refine T.seq ?_
  refine T.region ?_
  refine L.next rfl rfl qP (fun hre => ?_) (fun k v rs hpe hkv => ?_)
  · skip
    skip
    refine L.extract rfl rfl rfl ?_
    refine L.nil ?_
    refine T.thenN ?_
    refine T.seq ?_
    refine T.condF rfl rfl ?_
    refine T.exit ?_
    refine T.thenX ?_
    refine T.thenX ?_
    refine T.blkX ?_
    subst hre
    refine T.mpiMp qP ?_
    exact T.retN (by simp) rfl ⟨pre, rfl, by simpa using hP, rfl, rfl⟩ qD qF
  · skip
    skip
    refine L.extract rfl rfl rfl ?_
    refine L.nil ?_
    refine T.thenN ?_
    refine T.seq ?_
    refine T.condT rfl rfl ?_
    refine T.skip ?_
    refine T.thenN ?_
    refine T.block ?_
    refine T.seq ?_
    refine T.region ?_
    refine L.entry (ent_inj aK_inj hnd hkv) rfl rfl qM hkv ?_
    refine L.extract rfl rfl rfl ?_
    refine L.alloc rfl ze28 (fun b3 => ?_)
    refine L.storeA ag28 rfl rfl qL qO qU qW ?_
    refine L.nil ?_
    have hlt : pre.length < ml.length := by have h2 := hpe.length_eq; simp at h2; omega
    have hk32 := k.2
    refine T.thenN ?_
    refine T.seq ?_
    refine T.region ?_
    refine L.move rfl rfl ?_
    refine L.loadA rfl ag28 rfl qN ?_
    refine L.callY (M0 := [J pre]) rfl rfl rfl (evs.cons rfl evs.nil) qD qS (hY pre k hlt) ?_
    rintro _ _ _ ⟨rfl, rfl, rfl⟩
    refine L.norm qA qA ?_
    refine L.notB rfl rfl ?_
    refine L.nil ?_
    refine T.thenN ?_
    refine T.condF rfl rfl ?_
    refine T.skip ?_
    refine T.blkN ?_
    refine T.thenN ?_
    exact T.back ⟨pre ++ [k], rs, some k, (by have := hpe.length_eq; simp at this ⊢; omega), rfl, rfl, rfl, rfl⟩ (by have := hpe.length_eq; simp at this; omega) (SubK.nil _) (.cons (t := 0) rfl <| .cons (t := 5) rfl <| SubK.nil _) qD qD qF
theorem keys_iterI {ml : ML} {m c : Nat} : Iter Try.prog 35 [.pointer (some ⟨c, 0, none⟩)] (fun x : ID32 => [.agg (x.1.map Y).toArray]) (fun pre x => pre.length < ml.length) (cl c 55 [.map (some m)]) (mp m aK rV2 ml) (mp m aK rV2 ml) (fun xs => xs.length = ml.length) :=
  ⟨fun l ψ J hY => (keysitI_spec hY).imp (fun v D' M' ⟨xs, _, h2, h3, h4⟩ => ⟨xs, h2, h3, h4⟩)⟩
set_option maxHeartbeats 400000 in
theorem keysI_spec {m : Nat}  : Spec Try.prog 24 [.map (some m)] [] [] (fun v D' M' => ∃ (c : Nat), v = fnV 35 [.pointer (some ⟨c, 0, none⟩)] ∧ D' = [cl c 55 [.map (some m)]] ∧ M' = []) := by
  refine Spec.intro (n := 4) Try.func24 rfl rfl (by decide) (Nat.le_of_ble_eq_true rfl) rfl (fun _ => qA) (fun _ => qA) ?_
  intro σ D M
  refine T.seq ?_
  refine T.region ?_
  refine L.box rfl rfl rfl (fun b1 => ?_)
  refine L.assign rfl rfl ?_
  refine L.nil ?_
  refine T.freeze (A := cl b1 55 [.map (some m)]) qP ?_
  refine T.thenN ?_
  refine T.seq ?_
  refine T.region ?_
  refine L.makeFunc rfl (evs.cons rfl <| evs.nil) ?_
  refine L.assign rfl rfl ?_
  refine L.nil ?_
  refine T.thenN ?_
  refine T.ret ?_
  exact T.ret1 rfl rfl ⟨_, rfl, rfl, rfl⟩ qD qF
set_option maxHeartbeats 400000 in
theorem appseqI_spec {f : FuncId} {lb : List Value} {Ok : List ID32 → ID32 → Prop} {φ A0 A1 : Asn} {SS : List ID32 → Prop}  (hI : Iter Try.prog f lb (fun x : ID32 => [.agg (x.1.map Y).toArray]) Ok φ A0 A1 SS) (hOk : ∀ pre x, Ok pre x → pre.length < 1000000000) : Spec Try.prog 40 [.slice none 0 0, fnV f lb] [φ] [A0] (fun v D' M' => ∃ (a' : Option Addr) (n' c' : Nat) (xs : List ID32), v = .slice a' n' c' ∧ (SS xs) ∧ (xs.length = n') ∧ D' = [] ∧ M' = [A1, own 32 28 a' n' c' ((xs).map aR)]) := by
  refine Spec.intro (n := 13) Try.func40 rfl rfl (by decide) (Nat.le_of_ble_eq_true rfl) rfl (fun _ => qA) (fun _ => qA) ?_
  intro σ D M
  refine T.seq ?_
  refine T.region ?_
  refine L.box rfl rfl rfl (fun b2 => ?_)
  refine L.assign rfl rfl ?_
  refine L.nil ?_
  refine T.newOwn (sz := 32) (e := 28) ?_
  refine T.thenN ?_
  refine T.seq ?_
  refine T.seq ?_
  refine T.region ?_
  refine L.move rfl rfl ?_
  refine L.nil ?_
  refine T.thenN ?_
  refine T.block ?_
  refine T.mkJ (J := (fun (pre : List (ID32)) => exs fun (a8 : Option Addr) => exs fun (n8 : Nat) => exs fun (c8 : Nat) => pur (pre.length = n8) (all [cl b2 34 [.slice a8 n8 c8], own 32 28 a8 n8 c8 ((pre).map aR)]) : List (ID32) → Asn) []) (L := (fun (pre : List (ID32)) (a8 : Option Addr) (n8 : Nat) (c8 : Nat) => ([cl b2 34 [.slice a8 n8 c8], own 32 28 a8 n8 c8 ((pre).map aR)] : List Asn)) [] (none) (0) (0)) qS (exs.in (none) (exs.in (0) (exs.in (0) (pur.in rfl (Ent.refl _))))) ?_
  refine T.rangeFunc (encs := fun x : ID32 => [.agg (x.1.map Y).toArray]) (hI) rfl (by kernel_rfl) (fun _ => rfl) (by decide) (fun x => [(7, .agg (x.1.map Y).toArray)]) (fun _ => rfl) [] (fun (pre : List (ID32)) => exs fun (a8 : Option Addr) => exs fun (n8 : Nat) => exs fun (c8 : Nat) => pur (pre.length = n8) (all [cl b2 34 [.slice a8 n8 c8], own 32 28 a8 n8 c8 ((pre).map aR)]) : List (ID32) → Asn) (.cons (t := 2) rfl <| SubK.nil _) qD qD qS ?_ ?_
  · intro σ1 l1 r1 pre x D1 M1 hok hr1
    refine T.norm2 qA qA ?_
    refine T.exs qP (fun a8 => ?_)
    refine T.exs qP (fun n8 => ?_)
    refine T.exs qP (fun c8 => ?_)
    refine T.pur qP (fun hJ => ?_)
    refine T.unfold _ qP rfl qA ?_
    have hol := hOk pre x hok
    have hx32 := x.2
    refine T.region ?_
    refine L.alloc rfl ze28 (fun b5 => ?_)
    refine L.storeA ag28 rfl rfl qL qO qU qW ?_
    refine L.nil ?_
    refine T.thenN ?_
    refine T.begin hr1.1 qP ?_
    refine T.block ?_
    refine T.region ?_
    refine L.load rfl sc34 rfl qC ?_
    refine L.loadA rfl ag28 rfl qN ?_
    refine L.buildSlice rfl bs34 (by decide) (BP.agg rfl rfl (by first | with_reducible assumption | (simp; done) | (simp only [List.length_map]; with_reducible assumption) | (simp [*]; done) | rfl) (Nat.le_of_ble_eq_true rfl) qR <| BP.doneE (out := []) rfl) (fun b10 => ?_)
    refine L.append1 rfl Try.underlying34 el28 rfl rfl qP qM (by rw [List.append_nil, List.length_map]; exact hx32) (fun u hu => by rw [List.append_nil] at hu; obtain ⟨b, _, rfl⟩ := List.mem_map.1 hu; rfl) qI qI (fun a11 c11 => ?_)
    refine L.store sc34 rfl rfl rfl qU qE ?_
    refine L.nil ?_
    refine T.blkN ?_
    refine T.ownEq _ ((pre ++ [x]).map aR) qP (by rw [List.map_append, List.append_nil]; rfl) ?_
    refine T.mkJ (J := (fun (pre : List (ID32)) => exs fun (a8 : Option Addr) => exs fun (n8 : Nat) => exs fun (c8 : Nat) => pur (pre.length = n8) (all [cl b2 34 [.slice a8 n8 c8], own 32 28 a8 n8 c8 ((pre).map aR)]) : List (ID32) → Asn) (pre ++ [x])) (L := (fun (pre : List (ID32)) (a8 : Option Addr) (n8 : Nat) (c8 : Nat) => ([cl b2 34 [.slice a8 n8 c8], own 32 28 a8 n8 c8 ((pre).map aR)] : List Asn)) (pre ++ [x]) (_) (n8 + 1) (_)) qS (exs.in (_) (exs.in (n8 + 1) (exs.in (_) (pur.in (by rw [List.length_append, hJ]; rfl) (Ent.refl _))))) ?_
    exact T.roundEnd hr1 qP qD qF
  · intro b1 xs hxs
    refine T.exs qP (fun a8 => ?_)
    refine T.exs qP (fun n8 => ?_)
    refine T.exs qP (fun c8 => ?_)
    refine T.pur qP (fun hJ => ?_)
    refine T.unfold _ qP rfl qA ?_
    refine T.blkN ?_
    refine T.thenN ?_
    refine T.seq ?_
    refine T.region ?_
    refine L.load rfl sc34 rfl qC ?_
    refine L.assign rfl rfl ?_
    refine L.nil ?_
    refine T.thenN ?_
    refine T.ret ?_
    refine T.unmark (.inl rfl) qP ?_
    exact T.ret1 rfl rfl ⟨_, _, _, xs, rfl, hxs, hJ, rfl, rfl⟩ qD qF
set_option maxHeartbeats 400000 in
theorem collectI_spec {f : FuncId} {lb : List Value} {Ok : List ID32 → ID32 → Prop} {φ A0 A1 : Asn} {SS : List ID32 → Prop}  (hI : Iter Try.prog f lb (fun x : ID32 => [.agg (x.1.map Y).toArray]) Ok φ A0 A1 SS) (hOk : ∀ pre x, Ok pre x → pre.length < 1000000000) : Spec Try.prog 33 [fnV f lb] [φ] [A0] (fun v D' M' => ∃ (a' : Option Addr) (n' c' : Nat) (xs : List ID32), v = .slice a' n' c' ∧ (SS xs) ∧ (xs.length = n') ∧ D' = [] ∧ M' = [A1, own 32 28 a' n' c' ((xs).map aR)]) := by
  refine Spec.intro (n := 5) Try.func33 rfl rfl (by decide) (Nat.le_of_ble_eq_true rfl) rfl (fun _ => qA) (fun _ => qA) ?_
  intro σ D M
  refine T.seq ?_
  refine T.region ?_
  refine L.assign rfl rfl ?_
  refine L.nil ?_
  refine T.thenN ?_
  refine T.seq ?_
  refine T.region ?_
  refine L.move rfl rfl ?_
  refine L.call rfl (evs.cons rfl <| evs.cons rfl <| evs.nil) qD qS (appseqI_spec hI hOk) ?_
  rintro _ _ _ ⟨sa, sn, sc, xs, rfl, hxs, hxl, rfl, rfl⟩
  refine L.norm qA qA ?_
  refine L.assign rfl rfl ?_
  refine L.nil ?_
  refine T.thenN ?_
  refine T.ret ?_
  exact T.ret1 rfl rfl ⟨_, _, _, xs, rfl, hxs, hxl, rfl, rfl⟩ qD qF
set_option maxHeartbeats 400000 in
theorem sortedI_spec {f : FuncId} {lb : List Value} {Ok : List ID32 → ID32 → Prop} {φ A0 A1 : Asn} {SS : List ID32 → Prop} {fv : Value} (hI : Iter Try.prog f lb (fun x : ID32 => [.agg (x.1.map Y).toArray]) Ok φ A0 A1 SS) (hOk : ∀ pre x, Ok pre x → pre.length < 1000000000) (hSl : ∀ xs, SS xs → xs.length ≤ 1) : Spec Try.prog 23 [fnV f lb, fv] [φ] [A0] (fun v D' M' => ∃ (a' : Option Addr) (n' c' : Nat) (xs : List ID32), v = .slice a' n' c' ∧ (SS xs) ∧ (xs.length = n') ∧ D' = [] ∧ M' = [A1]) := by
  refine Spec.intro (n := 12) Try.func23 rfl rfl (by decide) (Nat.le_of_ble_eq_true rfl) rfl (fun _ => qA) (fun _ => qA) ?_
  intro σ D M
  refine T.seq ?_
  refine T.region ?_
  refine L.assign rfl rfl ?_
  refine L.nil ?_
  refine T.thenN ?_
  refine T.seq ?_
  refine T.region ?_
  refine L.move rfl rfl ?_
  refine L.call rfl (evs.cons rfl <| evs.nil) qD qS (collectI_spec hI hOk) ?_
  rintro _ _ _ ⟨sa, sn, sc, xs, rfl, hxs, hxl, rfl, rfl⟩
  refine L.norm qA qA ?_
  have hsl := hSl xs hxs
  refine L.assign rfl rfl ?_
  refine L.nil ?_
  refine T.thenN ?_
  refine T.seq ?_
  refine T.region ?_
  refine L.move rfl rfl ?_
  refine L.move rfl rfl ?_
  refine L.call rfl (evs.cons rfl <| evs.cons rfl <| evs.nil) qD qS (sort1_spec (by omega)) ?_
  rintro _ _ _ ⟨rfl, rfl, rfl⟩
  refine L.norm qA qA ?_
  refine L.nil ?_
  refine T.thenN ?_
  refine T.seq ?_
  refine T.region ?_
  refine L.move rfl rfl ?_
  refine L.assign rfl rfl ?_
  refine L.nil ?_
  refine T.thenN ?_
  refine T.ret ?_
  exact T.ret1 rfl rfl ⟨_, _, _, xs, rfl, hxs, hxl, rfl, rfl⟩ qD qF
set_option maxHeartbeats 400000 in
theorem namesM_spec {b tm : Nat} {ml : ML} (hlen : ml.length ≤ 1) : Spec Try.prog 12 [.pointer (some ⟨b, 0, none⟩)] [cl b 57 [.map (some tm)]] [mp tm aK rV2 ml, each rA2 ml] (fun v D' M' => ∃ (a' : Option Addr) (n' c' : Nat), v = .slice a' n' c' ∧ (n' = ml.length) ∧ D' = [] ∧ M' = [tbA tm (er ml)]) := by
  refine Spec.intro (n := 9) Try.func12 rfl rfl (by decide) (Nat.le_of_ble_eq_true rfl) rfl (fun _ => qA) (fun _ => qA) ?_
  intro σ D M
  refine T.seq ?_
  refine T.region ?_
  refine L.assign rfl rfl ?_
  refine L.nil ?_
  refine T.thenN ?_
  refine T.seq ?_
  refine T.region ?_
  refine L.move rfl rfl ?_
  refine L.nilCheck rfl rfl ?_
  first | refine L.field0 rfl fo57_0 rfl ?_ | refine L.field rfl fo57_0 rfl ?_
  refine L.load rfl sc55 rfl qC ?_
  refine L.call rfl (evs.cons rfl <| evs.nil) qD qS (keysI_spec) ?_
  rintro _ _ _ ⟨c7, rfl, rfl, rfl⟩
  refine L.norm qA qA ?_
  refine L.call rfl (evs.cons rfl <| evs.cons rfl <| evs.nil) qD qS (sortedI_spec (keys_iterI (ml := ml) (m := tm) (c := c7)) (fun pre x h => by omega) (fun xs h => by omega)) ?_
  rintro _ _ _ ⟨sa, sn, sc, xs, rfl, hxs, hxl, rfl, rfl⟩
  refine L.norm qA qA ?_
  refine L.assign rfl rfl ?_
  refine L.nil ?_
  refine T.thenN ?_
  refine T.ret ?_
  refine T.tbShut (t := er ml) rfl qS ?_
  exact T.ret1 rfl rfl ⟨_, _, _, rfl, by omega, rfl, rfl⟩ qD qF
theorem names_spec {b tm : Nat} {t : Tb} (h1 : t.length ≤ 1) : Spec Try.prog 12 [.pointer (some ⟨b, 0, none⟩)] [cl b 57 [.map (some tm)]] [tbA tm t] (fun v D' M' => ∃ (a' : Option Addr) (n' c' : Nat), v = .slice a' n' c' ∧ n' = t.length ∧ D' = [] ∧ M' = [tbA tm t]) :=
  Spec.tb (IsFn.of Try.func12 rfl (by decide)) fun ml hm => by
    subst hm
    rw [er_len]
    exact namesM_spec (by rw [er_len] at h1; exact h1)
end Cv
