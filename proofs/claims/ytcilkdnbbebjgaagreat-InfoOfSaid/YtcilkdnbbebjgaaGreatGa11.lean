/-
  The walks: gear.
-/
import Derived.Test.YtcilkdnbbebjgaaGreatHH11
import Derived.Test.YtcilkdnbbebjgaaGreatD05
import Derived.Test.YtcilkdnbbebjgaaGreatProg
import Derived.KernelRfl
set_option linter.unusedVariables false
set_option linter.unusedSimpArgs false
set_option linter.unusedSectionVars false
set_option maxRecDepth 10000
namespace Cv
open Go Go.Proofs
/-! ## gear, cutter: the plain model -/
@[reducible] def U (z : Int) : Value := .int .u64 z
theorem wrapU (z : Int) : IntKind.u64.wrap z = z % 18446744073709551616 := by
  have e : IntKind.u64.wrap z = z % 2 ^ 64 := by simp [IntKind.wrap, IntKind.signed, IntKind.bits]
  rw [e]; rfl
def gAcc (b : List UInt8) : Nat → Nat
  | 0 => 0
  | j + 1 => gAcc b j * 256 + (gd b j).toNat
theorem gAcc_lt (b : List UInt8) : ∀ j, gAcc b j < 256 ^ j
  | 0 => by simp [gAcc]
  | j + 1 => by
    have h1 := gAcc_lt b j
    have h2 := (gd b j).toNat_lt
    unfold gAcc
    rw [Nat.pow_succ]
    omega
theorem pow256 {j : Nat} (h : j ≤ 8) : 256 ^ j ≤ 18446744073709551616 := Nat.le_trans (Nat.pow_le_pow_right (by decide) h) (by decide)
theorem pow256' {j : Nat} (h : j ≤ 7) : 256 ^ j ≤ 72057594037927936 := Nat.le_trans (Nat.pow_le_pow_right (by decide) h) (by decide)
theorem gAcc_or {b : List UInt8} {j : Nat} (h : j < 8) : bitsOr .u64 (IntKind.u64.wrap ((gAcc b j : Int) * 2 ^ (min (8 : Int).toNat IntKind.u64.bits))) ((gd b j).toNat : Int) = (gAcc b (j + 1) : Int) := by
  have h1 := gAcc_lt b j
  have h2 := (gd b j).toNat_lt
  have h3 := pow256' (j := j) (by omega)
  have e : IntKind.u64.wrap ((gAcc b j : Int) * 2 ^ (min (8 : Int).toNat IntKind.u64.bits)) = ((gAcc b j * 256 : Nat) : Int) := by
    show IntKind.u64.wrap ((gAcc b j : Int) * 256) = _
    rw [wrap_u64 (by omega) (by omega)]; omega
  rw [e]
  unfold bitsOr
  have bo : ∀ n : Nat, n < 18446744073709551616 → (BitVec.ofInt IntKind.u64.bits (n : Int)).toNat = n := fun n hn => by
    simp only [IntKind.bits, BitVec.toNat_ofInt]
    have : ((n : Int) % ((2 ^ 64 : Nat) : Int)) = n := Int.emod_eq_of_lt (by omega) (by have : ((2 ^ 64 : Nat) : Int) = 18446744073709551616 := (by decide); omega)
    rw [this]; simp
  rw [BitVec.toNat_or, bo _ (by omega), bo _ (by omega)]
  have : gAcc b j * 256 ||| (gd b j).toNat = gAcc b j * 256 + (gd b j).toNat := by
    have := Nat.shiftLeft_add_eq_or_of_lt (a := gAcc b j) (i := 8) (b := (gd b j).toNat) (by simpa using h2)
    rw [Nat.shiftLeft_eq] at this
    exact this.symm
  rw [this]
  have h4 : gAcc b (j + 1) = gAcc b j * 256 + (gd b j).toNat := rfl
  rw [← h4]
  have h5 := gAcc_lt b (j + 1)
  have h6 := pow256 (j := j + 1) (by omega)
  exact wrap_u64 (by omega) (by omega)
def gearOne (seed : List UInt8) (i : Nat) : Int := (gAcc (digest ([103, 101, 97, 114] ++ seed ++ [UInt8.ofNat i])) 8 : Int)
def gtI (seed : List UInt8) (i : Nat) : List Int := (List.range i).map (gearOne seed) ++ List.replicate (256 - i) 0
def gearT (seed : List UInt8) : List Int := (List.range 256).map (gearOne seed)
theorem gtI_len {seed : List UInt8} {i : Nat} (h : i ≤ 256) : (gtI seed i).length = 256 := by unfold gtI; simp; omega
theorem gearT_len {seed : List UInt8} : (gearT seed).length = 256 := by unfold gearT; simp
theorem gtI_end {seed : List UInt8} : gtI seed 256 = gearT seed := by unfold gtI gearT; simp
theorem gtI_at {seed : List UInt8} {i : Nat} (h : i < 256) : gd (gtI seed i) i = 0 := by
  unfold gtI gd
  rw [List.getD_eq_getElem?_getD, List.getElem?_append_right (by simp), List.getElem?_replicate]
  split <;> rfl
theorem gtI_s {seed : List UInt8} {i : Nat} (h : i < 256) : (gtI seed i).set i (gearOne seed i) = gtI seed (i + 1) := by
  unfold gtI
  rw [List.set_append_right _ _ (by simp), List.range_succ, List.map_append, List.append_assoc]
  congr 1
  simp only [List.length_map, List.length_range, Nat.sub_self]
  obtain ⟨k, hk⟩ : ∃ k, 256 - i = k + 1 := ⟨255 - i, by omega⟩
  rw [hk, show 256 - (i + 1) = k by omega, List.replicate_succ]
  rfl
theorem u8_of {i : Nat} (h : i < 256) : UInt8.ofNat ((i : Int) % 256).toNat = UInt8.ofNat i := by congr 1; omega
def rollN (T : List Int) (v : Int) (c : UInt8) : Int := (v * 2 + gd T c.toNat) % 18446744073709551616
theorem roll_eq {T : List Int} {v : Int} {c : UInt8} : IntKind.u64.wrap (IntKind.u64.wrap (v * 2 ^ (min (1 : Int).toNat IntKind.u64.bits)) + gd T c.toNat) = rollN T v c := by
  show IntKind.u64.wrap (IntKind.u64.wrap (v * 2) + _) = _
  rw [wrapU, wrapU]; unfold rollN; omega
def rollL (T : List Int) (p : List UInt8) : Int := p.foldl (rollN T) 0
theorem rollL_s {T : List Int} {p : List UInt8} {c : UInt8} : rollL T (p ++ [c]) = rollN T (rollL T p) c := by unfold rollL; rw [List.foldl_append]; rfl
def mskE (i : Nat) : Int := IntKind.u64.wrap (1 * 2 ^ (min (63 - (i : Int) % 16 * 3 - (i : Int) / 16).toNat IntKind.u64.bits))
def mskP : Nat → Int
  | 0 => 0
  | i + 1 => bitsOr .u64 (mskP i) (mskE i)
def mskR : Nat → Int
  | 0 => 0
  | i + 1 => IntKind.u64.wrap (mskR i + mskE i)
theorem msk_8 : mskR 8 = mskP 8 := by decide +kernel
theorem msk_5 : mskR 5 = mskP 5 := by decide +kernel
def endB (n : Nat) (v : Int) : Bool := decide (32 ≤ n ∧ (256 ≤ n ∨ (n < 96 ∧ bitsAnd .u64 v (mskP 8) = 0) ∨ (96 ≤ n ∧ bitsAnd .u64 v (mskP 5) = 0)))
abbrev CutS := List (List UInt8) × List UInt8
def cutS (T : List Int) (s : CutS) (c : UInt8) : CutS := if endB (s.2.length + 1) (rollN T (rollL T s.2) c) then (s.1 ++ [s.2 ++ [c]], []) else (s.1, s.2 ++ [c])
def cutW (T : List Int) (s : CutS) (l : List UInt8) : CutS := l.foldl (cutS T) s
theorem cutW_s {T : List Int} {s : CutS} {l : List UInt8} {i : Nat} {c : UInt8} (h : l[i]? = some c) : cutW T s (l.take (i + 1)) = cutS T (cutW T s (l.take i)) c := by
  unfold cutW; rw [List.take_add_one, h, List.foldl_append]; rfl
theorem cutS_yes {T : List Int} {s : CutS} {c : UInt8} (h : endB (s.2.length + 1) (rollN T (rollL T s.2) c) = true) : cutS T s c = (s.1 ++ [s.2 ++ [c]], []) := by unfold cutS; rw [if_pos h]
theorem cutS_no {T : List Int} {s : CutS} {c : UInt8} (h : endB (s.2.length + 1) (rollN T (rollL T s.2) c) = false) : cutS T s c = (s.1, s.2 ++ [c]) := by unfold cutS; rw [if_neg (by rw [h]; decide)]
theorem cutW_len {T : List Int} : ∀ {l : List UInt8} {s : CutS}, (cutW T s l).1.length ≤ s.1.length + l.length ∧ (cutW T s l).2.length ≤ s.2.length + l.length
  | [], s => ⟨Nat.le_refl _, Nat.le_refl _⟩
  | c :: l, s => by
    have ih := cutW_len (l := l) (s := cutS T s c) (T := T)
    show (cutW T (cutS T s c) l).1.length ≤ _ ∧ (cutW T (cutS T s c) l).2.length ≤ _
    have h1 : (cutS T s c).1.length ≤ s.1.length + 1 ∧ (cutS T s c).2.length ≤ s.2.length + 1 := by
      unfold cutS; split <;> simp
    simp only [List.length_cons]; omega
def lastC (p : List UInt8) : List (List UInt8) := if p = [] then [] else [p]
def chnF (T : List Int) (s : List UInt8) : List (List UInt8) := (cutW T ([], []) s).1 ++ lastC (cutW T ([], []) s).2
theorem zv139 : ∀ w, (zeroValue 139).run Tryz.prog w = .ok (Value.agg #[Value.int .u64 0, Value.int .u64 0, Value.int .u64 0, Value.int .u64 0, Value.int .u64 0, Value.int .u64 0, Value.int .u64 0, Value.int .u64 0, Value.int .u64 0, Value.int .u64 0, Value.int .u64 0, Value.int .u64 0, Value.int .u64 0, Value.int .u64 0, Value.int .u64 0, Value.int .u64 0, Value.int .u64 0, Value.int .u64 0, Value.int .u64 0, Value.int .u64 0, Value.int .u64 0, Value.int .u64 0, Value.int .u64 0, Value.int .u64 0, Value.int .u64 0, Value.int .u64 0, Value.int .u64 0, Value.int .u64 0, Value.int .u64 0, Value.int .u64 0, Value.int .u64 0, Value.int .u64 0, Value.int .u64 0, Value.int .u64 0, Value.int .u64 0, Value.int .u64 0, Value.int .u64 0, Value.int .u64 0, Value.int .u64 0, Value.int .u64 0, Value.int .u64 0, Value.int .u64 0, Value.int .u64 0, Value.int .u64 0, Value.int .u64 0, Value.int .u64 0, Value.int .u64 0, Value.int .u64 0, Value.int .u64 0, Value.int .u64 0, Value.int .u64 0, Value.int .u64 0, Value.int .u64 0, Value.int .u64 0, Value.int .u64 0, Value.int .u64 0, Value.int .u64 0, Value.int .u64 0, Value.int .u64 0, Value.int .u64 0, Value.int .u64 0, Value.int .u64 0, Value.int .u64 0, Value.int .u64 0, Value.int .u64 0, Value.int .u64 0, Value.int .u64 0, Value.int .u64 0, Value.int .u64 0, Value.int .u64 0, Value.int .u64 0, Value.int .u64 0, Value.int .u64 0, Value.int .u64 0, Value.int .u64 0, Value.int .u64 0, Value.int .u64 0, Value.int .u64 0, Value.int .u64 0, Value.int .u64 0, Value.int .u64 0, Value.int .u64 0, Value.int .u64 0, Value.int .u64 0, Value.int .u64 0, Value.int .u64 0, Value.int .u64 0, Value.int .u64 0, Value.int .u64 0, Value.int .u64 0, Value.int .u64 0, Value.int .u64 0, Value.int .u64 0, Value.int .u64 0, Value.int .u64 0, Value.int .u64 0, Value.int .u64 0, Value.int .u64 0, Value.int .u64 0, Value.int .u64 0, Value.int .u64 0, Value.int .u64 0, Value.int .u64 0, Value.int .u64 0, Value.int .u64 0, Value.int .u64 0, Value.int .u64 0, Value.int .u64 0, Value.int .u64 0, Value.int .u64 0, Value.int .u64 0, Value.int .u64 0, Value.int .u64 0, Value.int .u64 0, Value.int .u64 0, Value.int .u64 0, Value.int .u64 0, Value.int .u64 0, Value.int .u64 0, Value.int .u64 0, Value.int .u64 0, Value.int .u64 0, Value.int .u64 0, Value.int .u64 0, Value.int .u64 0, Value.int .u64 0, Value.int .u64 0, Value.int .u64 0, Value.int .u64 0, Value.int .u64 0, Value.int .u64 0, Value.int .u64 0, Value.int .u64 0, Value.int .u64 0, Value.int .u64 0, Value.int .u64 0, Value.int .u64 0, Value.int .u64 0, Value.int .u64 0, Value.int .u64 0, Value.int .u64 0, Value.int .u64 0, Value.int .u64 0, Value.int .u64 0, Value.int .u64 0, Value.int .u64 0, Value.int .u64 0, Value.int .u64 0, Value.int .u64 0, Value.int .u64 0, Value.int .u64 0, Value.int .u64 0, Value.int .u64 0, Value.int .u64 0, Value.int .u64 0, Value.int .u64 0, Value.int .u64 0, Value.int .u64 0, Value.int .u64 0, Value.int .u64 0, Value.int .u64 0, Value.int .u64 0, Value.int .u64 0, Value.int .u64 0, Value.int .u64 0, Value.int .u64 0, Value.int .u64 0, Value.int .u64 0, Value.int .u64 0, Value.int .u64 0, Value.int .u64 0, Value.int .u64 0, Value.int .u64 0, Value.int .u64 0, Value.int .u64 0, Value.int .u64 0, Value.int .u64 0, Value.int .u64 0, Value.int .u64 0, Value.int .u64 0, Value.int .u64 0, Value.int .u64 0, Value.int .u64 0, Value.int .u64 0, Value.int .u64 0, Value.int .u64 0, Value.int .u64 0, Value.int .u64 0, Value.int .u64 0, Value.int .u64 0, Value.int .u64 0, Value.int .u64 0, Value.int .u64 0, Value.int .u64 0, Value.int .u64 0, Value.int .u64 0, Value.int .u64 0, Value.int .u64 0, Value.int .u64 0, Value.int .u64 0, Value.int .u64 0, Value.int .u64 0, Value.int .u64 0, Value.int .u64 0, Value.int .u64 0, Value.int .u64 0, Value.int .u64 0, Value.int .u64 0, Value.int .u64 0, Value.int .u64 0, Value.int .u64 0, Value.int .u64 0, Value.int .u64 0, Value.int .u64 0, Value.int .u64 0, Value.int .u64 0, Value.int .u64 0, Value.int .u64 0, Value.int .u64 0, Value.int .u64 0, Value.int .u64 0, Value.int .u64 0, Value.int .u64 0, Value.int .u64 0, Value.int .u64 0, Value.int .u64 0, Value.int .u64 0, Value.int .u64 0, Value.int .u64 0, Value.int .u64 0, Value.int .u64 0, Value.int .u64 0, Value.int .u64 0, Value.int .u64 0, Value.int .u64 0, Value.int .u64 0, Value.int .u64 0, Value.int .u64 0, Value.int .u64 0, Value.int .u64 0, Value.int .u64 0, Value.int .u64 0, Value.int .u64 0, Value.int .u64 0, Value.int .u64 0, Value.int .u64 0, Value.int .u64 0, Value.int .u64 0, Value.int .u64 0, Value.int .u64 0, Value.int .u64 0, Value.int .u64 0, Value.int .u64 0, Value.int .u64 0, Value.int .u64 0, Value.int .u64 0]) w := fun w => by kernel_rfl
theorem ze139 : Ze Tryz.prog 139 ((List.replicate 256 (0 : Int)).map (Value.int .u64)) := ⟨_, rfl, zv139⟩
theorem sz117 : Sz Tryz.prog 117 1 := fun w => by kernel_rfl
theorem zv243 : ∀ w, (zeroValue 243).run Tryz.prog w = .ok (Value.agg #[Value.pointer none, Value.int .u64 0, Value.int .i64 0]) w := fun w => by kernel_rfl
theorem bu243 : Bu Tryz.prog 243 [Value.pointer none, Value.int .u64 0, Value.int .i64 0] (fun (i : Nat) => ([(0, 1), (1, 1), (2, 1)] : List (Nat × Nat))[i]?) := bu_of Tryz.underlying243 zv243 rfl (fun w => by kernel_rfl)
theorem fo243_1 : Fo Tryz.prog 243 1 1 := fun a w => by kernel_rfl
theorem fo243_0 : Fo Tryz.prog 243 0 0 := fun a w => by kernel_rfl
theorem sc80 : Sc Tryz.prog 80 := fun w => ⟨by kernel_rfl, by kernel_rfl⟩
theorem fo243_2 : Fo Tryz.prog 243 2 2 := fun a w => by kernel_rfl
set_option maxHeartbeats 400000 in
theorem hof_spec {a2 : Option Addr} {k c2 : Nat} {ls : List (List UInt8)} (hm : ls.flatten.length ≤ 35184372088832) (hkb : ls.length ≤ 4611686018427387904) : Spec Tryz.prog 69 [.slice a2 k c2] [rsl 1 a2 k c2 (ls.map ys)] [] (fun v D' M' => v = .agg ((digest ls.flatten).map Y).toArray ∧ D' = [] ∧ M' = []) := by
 refine Spec.intro (n := 7) Tryz.func69 rfl rfl (by decide) (Nat.le_of_ble_eq_true rfl) rfl (fun _ => qA) (fun _ => qA) ?_
 intro σ D M
 refine T.seq (T.region ?_)
 refine L.alloc rfl ze30 (fun b2 => ?_)
 refine L.nil ?_
 refine T.thenN (T.seq (T.region ?_))
 refine L.call rfl (evs.nil) qD qS (hnew_spec) ?_
 rintro _ _ _ ⟨s, rfl, rfl, rfl⟩
 refine L.norm qA qA ?_
 refine L.move rfl rfl ?_
 refine L.call rfl (evs.cons rfl <| evs.cons rfl <| evs.nil) qD qS (hwrite_spec (ls := ls) (by simpa using (show ls.flatten.length ≤ _ by omega)) hkb) ?_
 rintro _ _ _ ⟨a1', len1', cap1', rfl, rfl, rfl⟩
 refine L.norm qA qA ?_
 refine L.call rfl (evs.cons rfl <| evs.nil) qD qS (hsum_spec (by simpa using (show ls.flatten.length ≤ _ by omega))) ?_
 rintro _ _ _ ⟨rfl, rfl, rfl⟩
 refine L.norm qA qA ?_
 rw [List.nil_append]
 have h32 := digest_len ls.flatten
 refine L.storeA ag30 rfl rfl qL qO qU qW ?_
 refine L.nil ?_
 refine T.thenN (T.ret ?_)
 exact T.retA rfl ag30 rfl qN ⟨rfl, rfl, rfl⟩ qD qF
theorem hof3_spec {a2 : Option Addr} {c2 : Nat} {p q r : List UInt8} (hm : p.length + q.length + r.length ≤ 35184372088832) : Spec Tryz.prog 69 [.slice a2 3 c2] [rsl 1 a2 3 c2 ([p, q, r].map ys)] [] (fun v D' M' => ∃ dg, v = .agg (dg.map Y).toArray ∧ dg = digest (p ++ q ++ r) ∧ D' = [] ∧ M' = []) := by
 have h := hof_spec (a2 := a2) (k := 3) (c2 := c2) (ls := [p, q, r]) (by simp; omega) (by simp)
 exact h.imp (fun v D' M' ⟨h1, h2, h3⟩ => ⟨_, h1, by simp, h2, h3⟩)
set_option maxHeartbeats 400000 in
theorem gnew_spec {seed : List UInt8} (hs : seed.length ≤ 1000000) : Spec Tryz.prog 35 [S seed] [] [] (fun v D' M' => ∃ (tb : Nat), v = .pointer (some ⟨tb, 0, none⟩) ∧ D' = [cl tb 139 ((gearT seed).map U)] ∧ M' = []) := by
 refine Spec.intro (n := 35) Tryz.func35 rfl rfl (by decide) (Nat.le_of_ble_eq_true rfl) rfl (fun _ => qA) (fun _ => qA) ?_
 intro σ D M
 refine T.seq (T.region ?_)
 refine L.assign rfl rfl ?_
 refine L.nil ?_
 refine T.thenN (T.seq (T.region ?_))
 refine L.alloc rfl ze139 (fun b3 => ?_)
 refine L.nil ?_
 refine T.thenN (T.seq (T.seq (T.region ?_)))
 refine L.move rfl rfl ?_
 refine L.nil ?_
 refine T.thenN (T.block ?_)
 refine T.eqv qP (show cl b3 139 ((List.replicate 256 (0 : Int)).map (Value.int .u64)) = cl b3 139 ((gtI seed 0).map U) from rfl) ?_
 refine T.loop (fun K' D' M' μ => ∃ (i : Nat), (i ≤ 256) ∧ K' = [(8, .int .i64 (i : Int))] ∧ D' = [] ∧ M' = [cl b3 139 ((gtI seed i).map U)] ∧ μ = 256 - i) (.cons (t := 0) rfl <| .cons (t := 3) rfl <| SubK.nil _) (⟨0, Nat.zero_le _, rfl, rfl, rfl, rfl⟩) (.cons (t := 8) rfl <| SubK.nil _) qD qS ?_
 rintro K1 D1 M1 m1 ⟨i, hi, rfl, rfl, rfl, rfl⟩
 refine T.norm3 qA qA qA ?_
 have hgl := gtI_len (seed := seed) hi
 refine T.seq (T.region ?_)
 refine L.ltI rfl rfl rfl ?_
 refine L.nil ?_
 refine T.thenN (T.seq ?_)
 refine T.cond rfl (fun h9 => ?_) (fun h9 => ?_)
 ·try simp only [dq] at h9
  refine T.skip (T.thenN (T.seq (T.block (T.seq (T.region ?_)))))
  refine L.move rfl rfl ?_
  refine L.assign rfl rfl ?_
  refine L.nil ?_
  refine T.thenN (T.seq (T.region ?_))
  refine L.move rfl rfl ?_
  refine L.move rfl rfl ?_
  refine L.convIY rfl Tryz.underlying3 Tryz.underlying5 rfl ?_
  refine L.known (t := 13) (u := Y (UInt8.ofNat i)) rfl (congrArg Y (u8_of (by omega))) ?_
  refine L.buildSlice rfl bs97 (by decide) (BP.one rfl rfl rfl <| BP.doneE (out := []) rfl) (fun b14 => ?_)
  refine L.toOwn (len := 1) qP (rows := ([UInt8.ofNat i] : List UInt8).map yr) (sz := 1) (by rfl) rfl (by simp) ?_
  refine L.ownRsl qP ?_
  refine L.bytesStr rfl Tryz.underlying97 Tryz.underlying5 Tryz.underlying9 rfl qM ?_
  refine L.buildSlice rfl bs25 (by decide) (BP.one rfl rfl rfl <| BP.one rfl rfl rfl <| BP.one rfl rfl rfl <| BP.doneE (out := []) rfl) (fun b16 => ?_)
  refine L.toOwn (len := 3) qP (rows := [[103, 101, 97, 114], seed, [UInt8.ofNat i]].map ys) (sz := 1) (by rfl) rfl (by simp) ?_
  refine L.ownRsl qP ?_
  refine L.call rfl (evs.cons rfl <| evs.nil) qD qS (hof3_spec (p := [103, 101, 97, 114]) (q := seed) (r := [UInt8.ofNat i]) (by simp; omega)) ?_
  rintro _ _ _ ⟨dg, rfl, hdg, rfl, rfl⟩
  refine L.norm qA qA ?_
  have h32 : dg.length = 32 := by rw [hdg]; exact digest_len _
  have hg1 : gearOne seed i = (gAcc dg 8 : Int) := by rw [hdg]; rfl
  refine L.alloc rfl ze30 (fun b5 => ?_)
  refine L.storeA ag30 rfl rfl qL qO qU qW ?_
  refine L.nil ?_
  refine T.thenN (T.seq (T.region ?_))
  refine L.sliceArr rfl Tryz.underlying30 sz5 rfl Bd.no (Bd.at rfl rfl) qI qI ?_
  refine L.lenSl rfl Tryz.underlying97 rfl ?_
  refine L.move rfl rfl ?_
  refine L.nil ?_
  refine T.thenN (T.block ?_)
  refine T.eqv qP (show cl b3 139 ((gtI seed i).map U) = cl b3 139 (((gtI seed i).set i (gAcc (dg) 0 : Int)).map U) from by rw [show ((gAcc (dg) 0 : Nat) : Int) = gd (gtI seed i) i from by rw [gtI_at (by omega)]; rfl, set_gd]) ?_
  refine T.loop (fun K' D' M' μ => ∃ (j : Nat), (j ≤ 8) ∧ K' = [(20, .int .i64 (j : Int))] ∧ D' = [] ∧ M' = [cl b3 139 (((gtI seed i).set i (gAcc (dg) j : Int)).map U)] ∧ μ = 8 - j) (.cons (t := 0) rfl <| .cons (t := 3) rfl <| .cons (t := 4) rfl <| .cons (t := 8) rfl <| .cons (t := 18) rfl <| .cons (t := 19) rfl <| SubK.nil _) (⟨0, Nat.zero_le _, rfl, rfl, rfl, rfl⟩) (.cons (t := 20) rfl <| SubK.nil _) qD qS ?_
  rintro K1 D1 M1 m1 ⟨j, hj, rfl, rfl, rfl, rfl⟩
  refine T.norm3 qA qA qA ?_
  refine T.seq (T.region ?_)
  refine L.ltI rfl rfl rfl ?_
  refine L.nil ?_
  refine T.thenN (T.seq ?_)
  refine T.cond rfl (fun h21 => ?_) (fun h21 => ?_)
  ·try simp only [dq] at h21
   refine T.skip (T.thenN (T.seq (T.block (T.seq ?_))))
   have hcl := (gd (dg) j).toNat_lt
   refine T.region ?_
   refine L.idxG (i := j) rfl Tryz.underlying97 sz5 rfl rfl (by first | rfl | omega | (simp; done)) qI ?_
   refine L.load rfl sc5 rfl qC ?_
   refine L.known (t := 23) (u := Y (gd dg j)) rfl (congrArg Y (congrArg (gd dg) (by omega))) ?_
   refine L.assign rfl rfl ?_
   refine L.nil ?_
   refine T.thenN ?_
   have hcl : (gd (dg) j).toNat < 256 := by have := (gd dg j).toNat_lt; simpa using this
   have hgs : gd ((gtI seed i).set i (gAcc (dg) j : Int)) i = (gAcc (dg) j : Int) := by rw [gd_set (by omega), if_pos rfl]
   refine T.region ?_
   refine L.move rfl rfl ?_
   refine L.move rfl rfl ?_
   refine L.idxA1 (i := i) rfl Tryz.underlying139 sz117 rfl rfl (by first | rfl | omega | (simp; done)) qI ?_
   refine L.load rfl sc117 rfl qC ?_
   refine L.known (t := 27) (u := U (gAcc dg j : Int)) rfl (congrArg U hgs) ?_
   refine L.shlI rfl rfl rfl qI ?_
   refine L.move rfl rfl ?_
   refine L.convU (z := ((gd dg j).toNat : Int)) rfl Tryz.underlying5 Tryz.underlying117 rfl (by omega) ?_
   refine L.orI rfl rfl rfl ?_
   refine L.known (t := 31) (u := U (gAcc dg (j + 1) : Int)) rfl (congrArg U (gAcc_or (by omega))) ?_
   refine L.idxA1 (i := i) rfl Tryz.underlying139 sz117 rfl rfl (by first | rfl | omega | (simp; done)) qI ?_
   refine L.store sc117 rfl rfl rfl qU qE ?_
   refine L.nil ?_
   refine T.eqv qP (B := cl b3 139 (((gtI seed i).set i (gAcc (dg) (j + 1) : Int)).map U)) (by rw [List.set_set]) ?_
   refine T.blkN (T.thenN (T.region ?_))
   refine L.addN rfl rfl rfl (by omega) ?_
   refine L.move rfl rfl ?_
   refine L.nil ?_
   refine T.thenN ?_
   exact T.back ⟨j + 1, (by omega), rfl, rfl, rfl, rfl⟩ qI (.cons (t := 20) rfl <| SubK.nil _) (.cons (t := 0) rfl <| .cons (t := 3) rfl <| .cons (t := 4) rfl <| .cons (t := 8) rfl <| .cons (t := 18) rfl <| .cons (t := 19) rfl <| SubK.nil _) qD qD qF
  ·try simp only [dq] at h21
   obtain rfl : j = 8 := by omega
   refine T.eqv qP (show cl b3 139 (((gtI seed i).set i (gAcc (dg) 8 : Int)).map U) = cl b3 139 ((gtI seed (i + 1)).map U) from by rw [← gtI_s (by omega), hg1]) ?_
   refine T.exit (T.thenX (T.thenX (T.blkX (T.blkN (T.thenN (T.region ?_))))))
   refine L.addN rfl rfl rfl (by omega) ?_
   refine L.move rfl rfl ?_
   refine L.nil ?_
   refine T.thenN ?_
   exact T.back ⟨i + 1, (by omega), rfl, rfl, rfl, rfl⟩ qI (.cons (t := 8) rfl <| SubK.nil _) (.cons (t := 0) rfl <| .cons (t := 3) rfl <| SubK.nil _) qD qD qF
 ·try simp only [dq] at h9
  obtain rfl : i = 256 := by omega
  refine T.exit (T.thenX (T.thenX (T.blkX (T.thenN (T.seq (T.region ?_))))))
  refine L.assign rfl rfl ?_
  refine L.nil ?_
  refine T.eqv qP (show cl b3 139 ((gtI seed 256).map U) = cl b3 139 ((gearT seed).map U) from by rw [gtI_end]) ?_
  refine T.freeze (A := cl b3 139 ((gearT seed).map U)) qP ?_
  refine T.thenN (T.ret ?_)
  exact T.ret1 rfl rfl ⟨_, rfl, rfl, rfl⟩ qD qF
set_option maxHeartbeats 400000 in
theorem mask_spec {n : Nat} (hn : n ≤ 48) : Spec Tryz.prog 166 [.int .i64 (n : Int)] [] [] (fun v D' M' => v = .int .u64 (mskP n) ∧ D' = [] ∧ M' = []) := by
 refine Spec.intro (n := 23) Tryz.func166 rfl rfl (by decide) (Nat.le_of_ble_eq_true rfl) rfl (fun _ => qA) (fun _ => qA) ?_
 intro σ D M
 refine T.seq (T.region ?_)
 refine L.assign rfl rfl ?_
 refine L.nil ?_
 refine T.thenN (T.seq (T.region ?_))
 refine L.assign rfl rfl ?_
 refine L.nil ?_
 refine T.thenN (T.seq (T.seq (T.region ?_)))
 refine L.move rfl rfl ?_
 refine L.minI rfl rfl rfl ?_
 refine L.maxI rfl rfl rfl ?_
 refine L.known (t := 7) (u := .int .i64 (n : Int)) rfl (congrArg (Value.int .i64) (by omega)) ?_
 refine L.move rfl rfl ?_
 refine L.nil ?_
 refine T.thenN (T.block ?_)
 refine T.loop (fun K' D' M' μ => ∃ (i : Nat), (i ≤ n) ∧ K' = [(8, .int .i64 (i : Int)), (3, .int .u64 (mskP i))] ∧ D' = [] ∧ M' = [] ∧ μ = n - i) (.cons (t := 7) rfl <| SubK.nil _) (⟨0, Nat.zero_le _, rfl, rfl, rfl, rfl⟩) (.cons (t := 8) rfl <| .cons (t := 3) rfl <| SubK.nil _) qD qS ?_
 rintro K1 D1 M1 m1 ⟨i, hi, rfl, rfl, rfl, rfl⟩
 refine T.norm3 qA qA qA ?_
 refine T.seq (T.region ?_)
 refine L.ltI rfl rfl rfl ?_
 refine L.nil ?_
 refine T.thenN (T.seq ?_)
 refine T.cond rfl (fun h9 => ?_) (fun h9 => ?_)
 ·try simp only [dq] at h9
  refine T.skip (T.thenN (T.seq (T.block (T.seq (T.region ?_)))))
  refine L.move rfl rfl ?_
  refine L.assign rfl rfl ?_
  refine L.nil ?_
  refine T.thenN (T.region ?_)
  refine L.move rfl rfl ?_
  refine L.move rfl rfl ?_
  refine L.remN rfl rfl rfl qI ?_
  refine L.mulN rfl rfl rfl (by omega) ?_
  refine L.subN rfl rfl rfl (by omega) ?_
  refine L.move rfl rfl ?_
  refine L.quoN rfl rfl rfl qI ?_
  refine L.subN rfl rfl rfl (by omega) ?_
  refine L.shlI rfl rfl rfl qI ?_
  refine L.orI rfl rfl rfl ?_
  refine L.assign rfl rfl ?_
  refine L.nil ?_
  refine T.blkN (T.thenN (T.region ?_))
  refine L.addN rfl rfl rfl (by omega) ?_
  refine L.move rfl rfl ?_
  refine L.nil ?_
  refine T.thenN ?_
  exact T.back ⟨i + 1, (by omega), rfl, rfl, rfl, rfl⟩ qI (.cons (t := 8) rfl <| .cons (t := 3) rfl <| SubK.nil _) (.cons (t := 7) rfl <| SubK.nil _) qD qD qF
 ·try simp only [dq] at h9
  obtain rfl : i = n := by omega
  refine T.exit (T.thenX (T.thenX (T.blkX (T.thenN (T.seq (T.region ?_))))))
  refine L.move rfl rfl ?_
  refine L.assign rfl rfl ?_
  refine L.nil ?_
  refine T.thenN (T.ret ?_)
  exact T.ret1 rfl rfl ⟨rfl, rfl, rfl⟩ qD qF
set_option maxHeartbeats 400000 in
theorem over_spec {tb : Nat}  : Spec Tryz.prog 139 [.pointer (some ⟨tb, 0, none⟩)] [] [] (fun v D' M' => ∃ (rb : Nat), v = .pointer (some ⟨rb, 0, none⟩) ∧ D' = [] ∧ M' = [cl rb 243 [.pointer (some ⟨tb, 0, none⟩), .int .u64 0, .int .i64 0]]) := by
 refine Spec.intro (n := 6) Tryz.func139 rfl rfl (by decide) (Nat.le_of_ble_eq_true rfl) rfl (fun _ => qA) (fun _ => qA) ?_
 intro σ D M
 refine T.seq (T.region ?_)
 refine L.assign rfl rfl ?_
 refine L.nil ?_
 refine T.thenN (T.seq (T.region ?_))
 refine L.move rfl rfl ?_
 refine L.build rfl bu243 (BP.one rfl rfl rfl <| BP.doneE (out := [Value.int .u64 0, Value.int .i64 0]) rfl) ?_
 refine L.box rfl rfl rfl (fun b5 => ?_)
 refine L.assign rfl rfl ?_
 refine L.nil ?_
 refine T.thenN (T.ret ?_)
 exact T.ret1 rfl rfl ⟨_, rfl, rfl, rfl⟩ qD qF
set_option maxHeartbeats 400000 in
theorem next_spec {rb tb n : Nat} {z : Int} {tt : List Int} {c : UInt8} (hT : tt.length = 256) (hn : n ≤ 1000000000) : Spec Tryz.prog 140 [.pointer (some ⟨rb, 0, none⟩), Y c] [cl tb 139 (tt.map U)] [cl rb 243 [.pointer (some ⟨tb, 0, none⟩), .int .u64 z, .int .i64 (n : Int)]] (fun v D' M' => v = .int .u64 (rollN tt z c) ∧ D' = [] ∧ M' = [cl rb 243 [.pointer (some ⟨tb, 0, none⟩), .int .u64 (rollN tt z c), .int .i64 ((n + 1 : Nat) : Int)]]) := by
 refine Spec.intro (n := 33) Tryz.func140 rfl rfl (by decide) (Nat.le_of_ble_eq_true rfl) rfl (fun _ => qA) (fun _ => qA) ?_
 intro σ D M
 have hc := c.toNat_lt
 refine T.seq (T.region ?_)
 refine L.assign rfl rfl ?_
 refine L.nil ?_
 refine T.thenN (T.seq ?_)
 refine T.regionA (clsL [1, 1, 0, 1, 0, 1, 1, 0, 1, 0, 1, 0, 0, 0, 1, 0, 1, 2]) qk ?_
 refine A.takeP (i := 0) rfl rfl rfl rfl qk qk qk rfl qD ?_
 refine L.move rfl rfl ?_
 refine A.took ?_
 refine A.takeP (i := 1) rfl rfl rfl rfl qk qk qk rfl qD ?_
 refine L.move rfl rfl ?_
 refine A.took ?_
 refine A.takeP (i := 6) rfl rfl rfl rfl qk qk qk rfl qD ?_
 refine L.move rfl rfl ?_
 refine A.took ?_
 refine A.takeP (i := 10) rfl rfl rfl rfl qk qk qk rfl qD ?_
 refine L.move rfl rfl ?_
 refine A.took ?_
 refine A.nilCheck (i := 2) rfl rfl qk qk qk qk rfl qD qF rfl ?_
 refine A.takeP (i := 3) rfl rfl rfl rfl qk qk qk rfl qD ?_
 first | refine L.field0 rfl fo243_1 rfl ?_ | refine L.field rfl fo243_1 rfl ?_
 refine A.took ?_
 refine A.take (i := 4) rfl rfl rfl rfl qk qk qk qk rfl qD qF ?_
 refine L.load rfl sc117 rfl qC ?_
 refine A.took ?_
 refine A.takeP (i := 5) rfl rfl rfl rfl qk qk qk rfl qD ?_
 refine L.shlI rfl rfl rfl qI ?_
 refine A.took ?_
 refine A.nilCheck (i := 7) rfl rfl qk qk qk qk rfl qD qF rfl ?_
 refine A.takeP (i := 8) rfl rfl rfl rfl qk qk qk rfl qD ?_
 first | refine L.field0 rfl fo243_0 rfl ?_ | refine L.field rfl fo243_0 rfl ?_
 refine A.took ?_
 refine A.take (i := 9) rfl rfl rfl rfl qk qk qk qk rfl qD qF ?_
 refine L.load rfl sc80 rfl qC ?_
 refine A.took ?_
 refine A.nilCheck (i := 11) rfl rfl qk qk qk qk rfl qD qF rfl ?_
 refine A.take (i := 12) rfl rfl rfl rfl qk qk qk qk rfl qD qF ?_
 refine L.idxA1 (i := c.toNat) rfl Tryz.underlying139 sz117 rfl rfl (by first | rfl | omega | (simp; done)) qI ?_
 refine A.took ?_
 refine A.take (i := 13) rfl rfl rfl rfl qk qk qk qk rfl qD qF ?_
 refine L.load rfl sc117 rfl qC ?_
 refine A.took ?_
 refine A.takeP (i := 14) rfl rfl rfl rfl qk qk qk rfl qD ?_
 refine L.addI rfl rfl rfl ?_
 refine L.known (t := 19) (u := .int .u64 (rollN tt z c)) rfl (congrArg (Value.int .u64) roll_eq) ?_
 refine A.took ?_
 refine A.nilCheck (i := 15) rfl rfl qk qk qk qk rfl qD qF rfl ?_
 refine A.takeP (i := 16) rfl rfl rfl rfl qk qk qk rfl qD ?_
 first | refine L.field0 rfl fo243_1 rfl ?_ | refine L.field rfl fo243_1 rfl ?_
 refine A.took ?_
 refine A.branch (is := [17]) qk (by decide) (Each.cons rfl ?_ <| Each.nil) 
 refine L.store sc117 rfl rfl rfl qU qE ?_
 refine A.backT rfl qD ?_
 refine A.done qk ?_
 refine T.thenN (T.seq (T.region ?_))
 refine L.move rfl rfl ?_
 refine L.nilCheck rfl rfl ?_
 first | refine L.field0 rfl fo243_2 rfl ?_ | refine L.field rfl fo243_2 rfl ?_
 refine L.load rfl sc3 rfl qC ?_
 refine L.addN rfl rfl rfl (by omega) ?_
 refine L.known (t := 26) (u := .int .i64 ((n + 1 : Nat) : Int)) rfl (congrArg (Value.int .i64) (by omega)) ?_
 refine L.nilCheck rfl rfl ?_
 first | refine L.field0 rfl fo243_2 rfl ?_ | refine L.field rfl fo243_2 rfl ?_
 refine L.store sc3 rfl rfl rfl qU qE ?_
 refine L.nil ?_
 refine T.thenN (T.seq (T.region ?_))
 refine L.move rfl rfl ?_
 refine L.nilCheck rfl rfl ?_
 first | refine L.field0 rfl fo243_1 rfl ?_ | refine L.field rfl fo243_1 rfl ?_
 refine L.load rfl sc117 rfl qC ?_
 refine L.assign rfl rfl ?_
 refine L.nil ?_
 refine T.thenN (T.ret ?_)
 exact T.ret1 rfl rfl ⟨rfl, rfl, rfl⟩ qD qF
set_option maxHeartbeats 400000 in
theorem count2_spec {rb tb : Nat} {z n : Int}  : Spec Tryz.prog 142 [.pointer (some ⟨rb, 0, none⟩)] [] [cl rb 243 [.pointer (some ⟨tb, 0, none⟩), .int .u64 z, .int .i64 n]] (fun v D' M' => v = .int .i64 n ∧ D' = [] ∧ M' = [cl rb 243 [.pointer (some ⟨tb, 0, none⟩), .int .u64 z, .int .i64 n]]) := by
 refine Spec.intro (n := 7) Tryz.func142 rfl rfl (by decide) (Nat.le_of_ble_eq_true rfl) rfl (fun _ => qA) (fun _ => qA) ?_
 intro σ D M
 refine T.seq (T.region ?_)
 refine L.assign rfl rfl ?_
 refine L.nil ?_
 refine T.thenN (T.seq (T.region ?_))
 refine L.move rfl rfl ?_
 refine L.nilCheck rfl rfl ?_
 first | refine L.field0 rfl fo243_2 rfl ?_ | refine L.field rfl fo243_2 rfl ?_
 refine L.load rfl sc3 rfl qC ?_
 refine L.assign rfl rfl ?_
 refine L.nil ?_
 refine T.thenN (T.ret ?_)
 exact T.ret1 rfl rfl ⟨rfl, rfl, rfl⟩ qD qF
set_option maxHeartbeats 400000 in
theorem reset_spec {rb tb : Nat} {z n : Int}  : Spec Tryz.prog 167 [.pointer (some ⟨rb, 0, none⟩)] [] [cl rb 243 [.pointer (some ⟨tb, 0, none⟩), .int .u64 z, .int .i64 n]] (fun v D' M' => v = .tuple #[] ∧ D' = [] ∧ M' = [cl rb 243 [.pointer (some ⟨tb, 0, none⟩), .int .u64 0, .int .i64 0]]) := by
 refine Spec.intro (n := 8) Tryz.func167 rfl rfl (by decide) (Nat.le_of_ble_eq_true rfl) rfl (fun _ => qA) (fun _ => qA) ?_
 intro σ D M
 refine T.region ?_
 refine L.move rfl rfl ?_
 refine L.move rfl rfl ?_
 refine L.nilCheck rfl rfl ?_
 first | refine L.field0 rfl fo243_1 rfl ?_ | refine L.field rfl fo243_1 rfl ?_
 refine L.store sc117 rfl rfl rfl qU qE ?_
 refine L.nilCheck rfl rfl ?_
 first | refine L.field0 rfl fo243_2 rfl ?_ | refine L.field rfl fo243_2 rfl ?_
 refine L.store sc3 rfl rfl rfl qU qE ?_
 refine L.nil ?_
 exact T.retN (by simp) rfl ⟨rfl, rfl, rfl⟩ qD qF
set_option maxHeartbeats 400000 in
theorem ends_spec {n : Nat} {z : Int}  : Spec Tryz.prog 141 [.int .i64 (n : Int), .int .u64 z] [] [] (fun v D' M' => v = .bool (endB n z) ∧ D' = [] ∧ M' = []) := by
 refine Spec.intro (n := 22) Tryz.func141 rfl rfl (by decide) (Nat.le_of_ble_eq_true rfl) rfl (fun _ => qA) (fun _ => qA) ?_
 intro σ D M
 refine T.seq (T.region ?_)
 refine L.assign rfl rfl ?_
 refine L.nil ?_
 refine T.thenN (T.seq (T.block (T.seq (T.region ?_))))
 refine L.move rfl rfl ?_
 refine L.ltI rfl rfl rfl ?_
 refine L.assign rfl rfl ?_
 refine L.nil ?_
 refine T.thenN ?_
 refine T.cond rfl (fun h5 => ?_) (fun h5 => ?_)
 ·try simp only [dq] at h5
  refine T.seq (T.region ?_)
  refine L.assign rfl rfl ?_
  refine L.nil ?_
  refine T.thenN (T.ret (T.blkR ?_))
  refine T.thenR ?_
  exact T.ret1 rfl rfl ⟨congrArg Value.bool ((decide_eq_false (fun e => by have := e.1; omega)).symm), rfl, rfl⟩ qD qF
 ·try simp only [dq] at h5
  refine T.seq (T.region ?_)
  refine L.move rfl rfl ?_
  refine L.geI rfl rfl rfl ?_
  refine L.assign rfl rfl ?_
  refine L.nil ?_
  refine T.thenN ?_
  refine T.cond rfl (fun h8 => ?_) (fun h8 => ?_)
  ·try simp only [dq] at h8
   refine T.seq (T.region ?_)
   refine L.assign rfl rfl ?_
   refine L.nil ?_
   refine T.thenN (T.ret (T.blkR ?_))
   refine T.thenR ?_
   exact T.ret1 rfl rfl ⟨congrArg Value.bool ((decide_eq_true ⟨by omega, .inl (by omega)⟩).symm), rfl, rfl⟩ qD qF
  ·try simp only [dq] at h8
   refine T.seq (T.region ?_)
   refine L.move rfl rfl ?_
   refine L.ltI rfl rfl rfl ?_
   refine L.assign rfl rfl ?_
   refine L.nil ?_
   refine T.thenN ?_
   refine T.cond rfl (fun h11 => ?_) (fun h11 => ?_)
   ·try simp only [dq] at h11
    refine T.seq (T.region ?_)
    refine L.move rfl rfl ?_
    refine L.callF rfl (evs.cons rfl <| evs.nil) qD qS (mask_spec (n := 8) (by decide)) (by rintro u D1 M1 ⟨rfl, rfl, rfl⟩; exact ⟨rfl, _, qA, qF⟩) ?_
    refine L.andI rfl rfl rfl ?_
    refine L.eqI rfl rfl rfl ?_
    refine L.assign rfl rfl ?_
    refine L.nil ?_
    refine T.thenN (T.ret (T.blkR ?_))
    refine T.thenR ?_
    exact T.ret1 rfl rfl ⟨congrArg Value.bool (decide_eq_decide.2 ⟨fun e => ⟨by omega, .inr (.inl ⟨by omega, e⟩)⟩, fun e => by rcases e.2 with q | q | q <;> first | exact q.2 | omega⟩), rfl, rfl⟩ qD qF
   ·try simp only [dq] at h11
    refine T.skip (T.blkN (T.thenN (T.seq (T.region ?_))))
    refine L.move rfl rfl ?_
    refine L.callF rfl (evs.cons rfl <| evs.nil) qD qS (mask_spec (n := 5) (by decide)) (by rintro u D1 M1 ⟨rfl, rfl, rfl⟩; exact ⟨rfl, _, qA, qF⟩) ?_
    refine L.andI rfl rfl rfl ?_
    refine L.eqI rfl rfl rfl ?_
    refine L.assign rfl rfl ?_
    refine L.nil ?_
    refine T.thenN (T.ret ?_)
    exact T.ret1 rfl rfl ⟨congrArg Value.bool (decide_eq_decide.2 ⟨fun e => ⟨by omega, .inr (.inr ⟨by omega, e⟩)⟩, fun e => by rcases e.2 with q | q | q <;> first | exact q.2 | omega⟩), rfl, rfl⟩ qD qF
end Cv
