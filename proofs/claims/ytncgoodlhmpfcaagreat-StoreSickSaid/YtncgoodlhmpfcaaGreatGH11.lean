/-
  The walks: gear.
-/
import Derived.Test.YtncgoodlhmpfcaaGreatHH11
import Derived.Test.YtncgoodlhmpfcaaGreatD05
set_option linter.all false
set_option maxHeartbeats 400000
set_option maxRecDepth 10000
namespace Cv
open Go Go.Proofs
/-! ## gear, cutter: the plain model -/
@[reducible] def U (z : Int) : Value := .int .u64 z
theorem wrapU (z : Int) : IntKind.u64.wrap z = z % 18446744073709551616 := by
  have e : IntKind.u64.wrap z = z % 2 ^ 64 := by simp [IntKind.wrap, IntKind.signed, IntKind.bits]
  rw [e]; rfl
def gAcc (b : List UInt8) : Nat → Nat
  | 0 => 0
  | j + 1 => gAcc b j * 256 + (gd b j).toNat
theorem gAcc_lt (b : List UInt8) : ∀ j, gAcc b j < 256 ^ j
  | 0 => by simp [gAcc]
  | j + 1 => by
    have h1 := gAcc_lt b j
    have h2 := (gd b j).toNat_lt
    unfold gAcc
    rw [Nat.pow_succ]
    omega
theorem pow256 {j : Nat} (h : j ≤ 8) : 256 ^ j ≤ 18446744073709551616 := Nat.le_trans (Nat.pow_le_pow_right (by decide) h) (by decide)
theorem pow256' {j : Nat} (h : j ≤ 7) : 256 ^ j ≤ 72057594037927936 := Nat.le_trans (Nat.pow_le_pow_right (by decide) h) (by decide)
theorem gAcc_or {b : List UInt8} {j : Nat} (h : j < 8) : bitsOr .u64 (IntKind.u64.wrap ((gAcc b j : Int) * 2 ^ (min (8 : Int).toNat IntKind.u64.bits))) ((gd b j).toNat : Int) = (gAcc b (j + 1) : Int) := by
  have h1 := gAcc_lt b j
  have h2 := (gd b j).toNat_lt
  have h3 := pow256' (j := j) (by omega)
  have e : IntKind.u64.wrap ((gAcc b j : Int) * 2 ^ (min (8 : Int).toNat IntKind.u64.bits)) = ((gAcc b j * 256 : Nat) : Int) := by
    show IntKind.u64.wrap ((gAcc b j : Int) * 256) = _
    rw [wrap_u64 (by omega) (by omega)]; omega
  rw [e]
  unfold bitsOr
  have bo : ∀ n : Nat, n < 18446744073709551616 → (BitVec.ofInt IntKind.u64.bits (n : Int)).toNat = n := fun n hn => by
    simp only [IntKind.bits, BitVec.toNat_ofInt]
    have : ((n : Int) % ((2 ^ 64 : Nat) : Int)) = n := Int.emod_eq_of_lt (by omega) (by have : ((2 ^ 64 : Nat) : Int) = 18446744073709551616 := (by decide); omega)
    rw [this]; simp
  rw [BitVec.toNat_or, bo _ (by omega), bo _ (by omega)]
  have : gAcc b j * 256 ||| (gd b j).toNat = gAcc b j * 256 + (gd b j).toNat := by
    have := Nat.shiftLeft_add_eq_or_of_lt (a := gAcc b j) (i := 8) (b := (gd b j).toNat) (by simpa using h2)
    rw [Nat.shiftLeft_eq] at this
    exact this.symm
  rw [this]
  have h4 : gAcc b (j + 1) = gAcc b j * 256 + (gd b j).toNat := rfl
  rw [← h4]
  have h5 := gAcc_lt b (j + 1)
  have h6 := pow256 (j := j + 1) (by omega)
  exact wrap_u64 (by omega) (by omega)
def gearOne (seed : List UInt8) (i : Nat) : Int := (gAcc (digest ([103, 101, 97, 114] ++ seed ++ [UInt8.ofNat i])) 8 : Int)
def gtI (seed : List UInt8) (i : Nat) : List Int := (List.range i).map (gearOne seed) ++ List.replicate (256 - i) 0
def gearT (seed : List UInt8) : List Int := (List.range 256).map (gearOne seed)
theorem gtI_len {seed : List UInt8} {i : Nat} (h : i ≤ 256) : (gtI seed i).length = 256 := by unfold gtI; simp; omega
theorem gearT_len {seed : List UInt8} : (gearT seed).length = 256 := by unfold gearT; simp
theorem gtI_end {seed : List UInt8} : gtI seed 256 = gearT seed := by unfold gtI gearT; simp
theorem gtI_at {seed : List UInt8} {i : Nat} (h : i < 256) : gd (gtI seed i) i = 0 := by
  unfold gtI gd
  rw [List.getD_eq_getElem?_getD, List.getElem?_append_right (by simp), List.getElem?_replicate]
  split <;> rfl
theorem gtI_s {seed : List UInt8} {i : Nat} (h : i < 256) : (gtI seed i).set i (gearOne seed i) = gtI seed (i + 1) := by
  unfold gtI
  rw [List.set_append_right _ _ (by simp), List.range_succ, List.map_append, List.append_assoc]
  congr 1
  simp only [List.length_map, List.length_range, Nat.sub_self]
  obtain ⟨k, hk⟩ : ∃ k, 256 - i = k + 1 := ⟨255 - i, by omega⟩
  rw [hk, show 256 - (i + 1) = k by omega, List.replicate_succ]
  rfl
theorem u8_of {i : Nat} (h : i < 256) : UInt8.ofNat ((i : Int) % 256).toNat = UInt8.ofNat i := by congr 1; omega
def rollN (T : List Int) (v : Int) (c : UInt8) : Int := (v * 2 + gd T c.toNat) % 18446744073709551616
theorem roll_eq {T : List Int} {v : Int} {c : UInt8} : IntKind.u64.wrap (IntKind.u64.wrap (v * 2 ^ (min (1 : Int).toNat IntKind.u64.bits)) + gd T c.toNat) = rollN T v c := by
  show IntKind.u64.wrap (IntKind.u64.wrap (v * 2) + _) = _
  rw [wrapU, wrapU]; unfold rollN; omega
def rollL (T : List Int) (p : List UInt8) : Int := p.foldl (rollN T) 0
theorem rollL_s {T : List Int} {p : List UInt8} {c : UInt8} : rollL T (p ++ [c]) = rollN T (rollL T p) c := by unfold rollL; rw [List.foldl_append]; rfl
def mskE (i : Nat) : Int := IntKind.u64.wrap (1 * 2 ^ (min (63 - (i : Int) % 16 * 3 - (i : Int) / 16).toNat IntKind.u64.bits))
def mskP : Nat → Int
  | 0 => 0
  | i + 1 => bitsOr .u64 (mskP i) (mskE i)
def endB (n : Nat) (v : Int) : Bool := decide (32 ≤ n ∧ (256 ≤ n ∨ (n < 96 ∧ bitsAnd .u64 v (mskP 8) = 0) ∨ (96 ≤ n ∧ bitsAnd .u64 v (mskP 5) = 0)))
abbrev CutS := List (List UInt8) × List UInt8
def cutS (T : List Int) (s : CutS) (c : UInt8) : CutS := if endB (s.2.length + 1) (rollN T (rollL T s.2) c) then (s.1 ++ [s.2 ++ [c]], []) else (s.1, s.2 ++ [c])
def cutW (T : List Int) (s : CutS) (l : List UInt8) : CutS := l.foldl (cutS T) s
theorem cutW_s {T : List Int} {s : CutS} {l : List UInt8} {i : Nat} {c : UInt8} (h : l[i]? = some c) : cutW T s (l.take (i + 1)) = cutS T (cutW T s (l.take i)) c := by
  unfold cutW; rw [List.take_add_one, h, List.foldl_append]; rfl
theorem cutS_yes {T : List Int} {s : CutS} {c : UInt8} (h : endB (s.2.length + 1) (rollN T (rollL T s.2) c) = true) : cutS T s c = (s.1 ++ [s.2 ++ [c]], []) := by unfold cutS; rw [if_pos h]
theorem cutS_no {T : List Int} {s : CutS} {c : UInt8} (h : endB (s.2.length + 1) (rollN T (rollL T s.2) c) = false) : cutS T s c = (s.1, s.2 ++ [c]) := by unfold cutS; rw [if_neg (by rw [h]; decide)]
theorem cutW_len {T : List Int} : ∀ {l : List UInt8} {s : CutS}, (cutW T s l).1.length ≤ s.1.length + l.length ∧ (cutW T s l).2.length ≤ s.2.length + l.length
  | [], s => ⟨Nat.le_refl _, Nat.le_refl _⟩
  | c :: l, s => by
    have ih := cutW_len (l := l) (s := cutS T s c) (T := T)
    show (cutW T (cutS T s c) l).1.length ≤ _ ∧ (cutW T (cutS T s c) l).2.length ≤ _
    have h1 : (cutS T s c).1.length ≤ s.1.length + 1 ∧ (cutS T s c).2.length ≤ s.2.length + 1 := by
      unfold cutS; split <;> simp
    simp only [List.length_cons]; omega
def lastC (p : List UInt8) : List (List UInt8) := if p = [] then [] else [p]
def chnF (T : List Int) (s : List UInt8) : List (List UInt8) := (cutW T ([], []) s).1 ++ lastC (cutW T ([], []) s).2

theorem hof_spec {a2 : Option Addr} {k c2 : Nat} {ls : List (List UInt8)} (hm : ls.flatten.length ≤ 35184372088832) (hkb : ls.length ≤ 4611686018427387904) : Spec Tryz.prog 121 [.slice a2 k c2] [rsl 1 a2 k c2 (ls.map ys)] [] (fun v D' M' => v = .agg ((digest ls.flatten).map Y).toArray ∧ D' = [] ∧ M' = []) := by
 refine zv (n := 7) Tryz.func121 ?_
 intro σ D M
 refine O (zC R ze37 (fun b2 => ?_))
 refine I (O (zp R (xu) qD qS (hnew_spec) ?_))
 rintro _ _ _ ⟨s, rfl, rfl, rfl⟩
 refine zm qA qA ?_
 refine E R R (zp R (ev2 R R) qD qS (hwrite_spec (ls := ls) (by simpa using (show ls.flatten.length ≤ _ by omega)) hkb) ?_)
 rintro _ _ _ ⟨a1', len1', cap1', rfl, rfl, rfl⟩
 refine zm qA qA ?_
 refine zp R (ev1 R) qD qS (hsum_spec (by simpa using (show ls.flatten.length ≤ _ by omega))) ?_
 rintro _ _ _ ⟨rfl, rfl, rfl⟩
 refine zm qA qA ?_
 rw [List.nil_append]
 have h32 := xE ls.flatten
 refine zz ag37 R R qL qO qU qW ?_
 exact I (zo (xt R ag37 R qN ⟨R, R, R⟩ qD qF))
theorem hof3_spec {a2 : Option Addr} {c2 : Nat} {p q r : List UInt8} (hm : p.length + q.length + r.length ≤ 35184372088832) : Spec Tryz.prog 121 [.slice a2 3 c2] [rsl 1 a2 3 c2 ([p, q, r].map ys)] [] (fun v D' M' => ∃ dg, v = .agg (dg.map Y).toArray ∧ dg = digest (p ++ q ++ r) ∧ D' = [] ∧ M' = []) := by
 have h := hof_spec (a2 := a2) (k := 3) (c2 := c2) (ls := [p, q, r]) (by simp; omega) (by simp)
 exact h.imp (fun v D' M' ⟨h1, h2, h3⟩ => ⟨_, h1, by simp, h2, h3⟩)
theorem gnew_spec {seed : List UInt8} (hs : seed.length ≤ 1000000) : Spec Tryz.prog 65 [S seed] [] [] (fun v D' M' => ∃ (tb : Nat), v = .pointer (some ⟨tb, 0, none⟩) ∧ D' = [cl tb 211 ((gearT seed).map U)] ∧ M' = []) := by
 refine zv (n := 35) Tryz.func65 ?_
 intro σ D M
 refine O (V R R (I (O (zC R ze211 (fun b3 => ?_)))))
 refine I (ze (O (E R R (I (zD (y3 qP (show cl b3 211 ((List.replicate 256 (0 : Int)).map (Value.int .u64)) = cl b3 211 ((gtI seed 0).map U) from R) ?_))))))
 refine y8 (fun K' D' M' μ => ∃ (i : Nat), (i ≤ 256) ∧ K' = [(8, .int .i64 (i : Int))] ∧ D' = [] ∧ M' = [cl b3 211 ((gtI seed i).map U)] ∧ μ = 256 - i) (.c 0 R <| .c 3 R <| zd _) (⟨0, Nat.zero_le _, R, R, R, R⟩) (.c 8 R <| zd _) qD qS ?_
 rintro K1 D1 M1 m1 ⟨i, hi, rfl, rfl, rfl, rfl⟩
 refine zM qA qA qA ?_
 have hgl := gtI_len (seed := seed) hi
 refine O (zW R R R (I (ze (zA R (fun h9 => ?_) (fun h9 => ?_)))))
 ·try simp only [dq] at h9
  refine zq (z8 (ze (zD (O (E R R (V R R (I (O (E R R (E R R (L.convIY R xi zX R ?_)))))))))))
  refine zE (t := 13) (u := Y (UInt8.ofNat i)) R (congrArg Y (u8_of jO)) ?_
  refine yl R bs171 jD (zF R R R <| zQ (out := []) R) (fun b14 => ?_)
  refine yR (len := 1) qP (rows := ([UInt8.ofNat i] : List UInt8).map yr) (sz := 1) (by rfl) R (by simp) ?_
  refine yF qP ?_
  refine xL R yz zX ye R qM ?_
  refine yl R bs27 jD (zF R R R <| zF R R R <| zF R R R <| zQ (out := []) R) (fun b16 => ?_)
  refine yR (len := 3) qP (rows := [[103, 101, 97, 114], seed, [UInt8.ofNat i]].map ys) (sz := 1) (by rfl) R (by simp) ?_
  refine yF qP ?_
  refine zp R (ev1 R) qD qS (hof3_spec (p := [103, 101, 97, 114]) (q := seed) (r := [UInt8.ofNat i]) (by simp; omega)) ?_
  rintro _ _ _ ⟨dg, rfl, hdg, rfl, rfl⟩
  refine zm qA qA ?_
  have h32 : dg.length = 32 := by rw [hdg]; exact xE _
  have hg1 : gearOne seed i = (gAcc dg 8 : Int) := by rw [hdg]; rfl
  refine zC R ze37 (fun b5 => ?_)
  refine zz ag37 R R qL qO qU qW ?_
  refine I (O (xB R xU sz5 R xb (Bd.at rfl R) qI qI ?_))
  refine yb R yz R (E R R (I (zD (y3 qP (show cl b3 211 ((gtI seed i).map U) = cl b3 211 (((gtI seed i).set i (gAcc (dg) 0 : Int)).map U) from by rw [show ((gAcc (dg) 0 : Nat) : Int) = gd (gtI seed i) i from by rw [gtI_at jO]; rfl, set_gd]) ?_))))
  refine y8 (fun K' D' M' μ => ∃ (j : Nat), (j ≤ 8) ∧ K' = [(20, .int .i64 (j : Int))] ∧ D' = [] ∧ M' = [cl b3 211 (((gtI seed i).set i (gAcc (dg) j : Int)).map U)] ∧ μ = 8 - j) (.c 0 R <| .c 3 R <| .c 4 R <| .c 8 R <| .c 18 R <| .c 19 R <| zd _) (⟨0, Nat.zero_le _, R, R, R, R⟩) (.c 20 R <| zd _) qD qS ?_
  rintro K1 D1 M1 m1 ⟨j, hj, rfl, rfl, rfl, rfl⟩
  refine zM qA qA qA ?_
  refine O (zW R R R (I (ze (zA R (fun h21 => ?_) (fun h21 => ?_)))))
  ·try simp only [dq] at h21
   refine zq (z8 (ze (zD (ze ?_))))
   have hcl := (gd (dg) j).toNat_lt
   refine zt (yN (i := j) R yz sz5 R R jR qI ?_)
   refine zf R sc5 R qC ?_
   refine zE (t := 23) (u := Y (gd dg j)) R (congrArg Y (congrArg (gd dg) jO)) ?_
   refine V R R (zu (z8 ?_))
   have hcl : (gd (dg) j).toNat < 256 := by have := (gd dg j).toNat_lt; simpa using this
   have hgs : gd ((gtI seed i).set i (gAcc (dg) j : Int)) i = (gAcc (dg) j : Int) := by rw [gd_set jO, if_pos rfl]
   refine zt (E R R (E R R (xe (i := i) R Tryz.underlying211 sz209 R R jR qI ?_)))
   refine zf R sc209 R qC ?_
   refine zE (t := 27) (u := U (gAcc dg j : Int)) R (congrArg U hgs) ?_
   refine L.shlI R R R qI ?_
   refine E R R (L.convU (z := ((gd dg j).toNat : Int)) R zX xM R jO ?_)
   refine L.orI R R R ?_
   refine zE (t := 31) (u := U (gAcc dg (j + 1) : Int)) R (congrArg U (gAcc_or jO)) ?_
   refine xe (i := i) R Tryz.underlying211 sz209 R R jR qI ?_
   refine yj sc209 R R R qU qE ?_
   refine zu (y3 qP (B := cl b3 211 (((gtI seed i).set i (gAcc (dg) (j + 1) : Int)).map U)) (by rw [List.set_set]) ?_)
   refine zS (z8 (zt (zT R R R jO ?_)))
   exact E R R (I (zV ⟨j + 1, jO, R, R, R, R⟩ qI (.c 20 R <| zd _) (.c 0 R <| .c 3 R <| .c 4 R <| .c 8 R <| .c 18 R <| .c 19 R <| zd _) qD qD qF))
  try simp only [dq] at h21
  obtain rfl : j = 8 := by omega
  refine y3 qP (show cl b3 211 (((gtI seed i).set i (gAcc (dg) 8 : Int)).map U) = cl b3 211 ((gtI seed (i + 1)).map U) from by rw [← gtI_s jO, hg1]) ?_
  refine y4 (zG (zG (y5 (zS (z8 (zt (zT R R R jO ?_)))))))
  exact E R R (I (zV ⟨i + 1, jO, R, R, R, R⟩ qI (.c 8 R <| zd _) (.c 0 R <| .c 3 R <| zd _) qD qD qF))
 try simp only [dq] at h9
 obtain rfl : i = 256 := by omega
 refine y4 (zG (zG (y5 (z8 (O (V R R (zu (y3 qP (show cl b3 211 ((gtI seed 256).map U) = cl b3 211 ((gearT seed).map U) from by rw [gtI_end]) ?_))))))))
 refine zO (A := cl b3 211 ((gearT seed).map U)) qP ?_
 exact z8 (zo (zy R R ⟨_, R, R, R⟩ qD qF))
theorem mask_spec {n : Nat} (hn : n ≤ 48) : Spec Tryz.prog 232 [.int .i64 (n : Int)] [] [] (fun v D' M' => v = .int .u64 (mskP n) ∧ D' = [] ∧ M' = []) := by
 refine zv (n := 23) Tryz.func232 ?_
 intro σ D M
 refine O (V R R (I (O (V R R (I (ze (O (E R R (L.minI R R R ?_)))))))))
 refine L.maxI R R R ?_
 refine zE (t := 7) (u := .int .i64 (n : Int)) R (congrArg (Value.int .i64) jO) ?_
 refine E R R (I (zD (y8 (fun K' D' M' μ => ∃ (i : Nat), (i ≤ n) ∧ K' = [(8, .int .i64 (i : Int)), (3, .int .u64 (mskP i))] ∧ D' = [] ∧ M' = [] ∧ μ = n - i) (.c 7 R <| zd _) (⟨0, Nat.zero_le _, R, R, R, R⟩) (.c 8 R <| .c 3 R <| zd _) qD qS ?_)))
 rintro K1 D1 M1 m1 ⟨i, hi, rfl, rfl, rfl, rfl⟩
 refine zM qA qA qA ?_
 refine O (zW R R R (I (ze (zA R (fun h9 => ?_) (fun h9 => ?_)))))
 ·try simp only [dq] at h9
  refine zq (z8 (ze (zD (O (E R R (V R R (I (zt (E R R (E R R (L.remN R R R qI ?_)))))))))))
  refine L.mulN R R R jO ?_
  refine yt R R R jO ?_
  refine E R R (L.quoN R R R qI ?_)
  refine yt R R R jO ?_
  refine L.shlI R R R qI ?_
  refine L.orI R R R ?_
  refine V R R (zu (zS (z8 (zt (zT R R R jO ?_)))))
  exact E R R (I (zV ⟨i + 1, jO, R, R, R, R⟩ qI (.c 8 R <| .c 3 R <| zd _) (.c 7 R <| zd _) qD qD qF))
 try simp only [dq] at h9
 obtain rfl : i = n := by omega
 exact y4 (zG (zG (y5 (z8 (O (E R R (V R R (I (zo (zy R R ⟨R, R, R⟩ qD qF))))))))))
theorem over_spec {tb : Nat}  : Spec Tryz.prog 216 [.pointer (some ⟨tb, 0, none⟩)] [] [] (fun v D' M' => ∃ (rb : Nat), v = .pointer (some ⟨rb, 0, none⟩) ∧ D' = [] ∧ M' = [cl rb 328 [.pointer (some ⟨tb, 0, none⟩), .int .u64 0, .int .i64 0]]) := by
 refine zv (n := 6) Tryz.func216 ?_
 intro σ D M
 refine O (V R R (I (O (E R R (yq R bu328 (zF R R R <| zQ (out := [Value.int .u64 0, .int .i64 0]) R) ?_)))))
 refine y6 R R R (fun b5 => ?_)
 exact V R R (I (zo (zy R R ⟨_, R, R, R⟩ qD qF)))
theorem next_spec {rb tb n : Nat} {z : Int} {tt : List Int} {c : UInt8} (hT : tt.length = 256) (hn : n ≤ 1000000000) : Spec Tryz.prog 217 [.pointer (some ⟨rb, 0, none⟩), Y c] [cl tb 211 (tt.map U)] [cl rb 328 [.pointer (some ⟨tb, 0, none⟩), .int .u64 z, .int .i64 (n : Int)]] (fun v D' M' => v = .int .u64 (rollN tt z c) ∧ D' = [] ∧ M' = [cl rb 328 [.pointer (some ⟨tb, 0, none⟩), .int .u64 (rollN tt z c), .int .i64 ((n + 1 : Nat) : Int)]]) := by
 refine zv (n := 33) Tryz.func217 ?_
 intro σ D M
 have hc := c.toNat_lt
 refine O (V R R (I (ze (y7 (clsL [1, 1, 0, 1, 0, 1, 1, 0, 1, 0, 1, 0, 0, 0, 1, 0, 1, 2]) qk ?_))))
 refine z9 0 R R (E R R (z7 (z9 1 R R (E R R (z7 (z9 6 R R (E R R (z7 (z9 10 R R (E R R (z7 (yE (i := 2) R R qk qk qk qk R qD qF R ?_))))))))))))
 refine z9 3 R R (zg R fo328_1 R ?_)
 refine z7 (zY (i := 4) R R R R qk qk qk qk R qD qF ?_)
 refine zf R sc209 R qC ?_
 refine z7 (z9 5 R R (L.shlI R R R qI ?_))
 refine z7 (yE (i := 7) R R qk qk qk qk R qD qF R ?_)
 refine z9 8 R R (zg R fo328_0 R ?_)
 refine z7 (zY (i := 9) R R R R qk qk qk qk R qD qF ?_)
 refine zf R sc139 R qC ?_
 refine z7 (yE (i := 11) R R qk qk qk qk R qD qF R ?_)
 refine zY (i := 12) R R R R qk qk qk qk R qD qF ?_
 refine xe (i := c.toNat) R Tryz.underlying211 sz209 R R jR qI ?_
 refine z7 (zY (i := 13) R R R R qk qk qk qk R qD qF ?_)
 refine zf R sc209 R qC ?_
 refine z7 (z9 14 R R (L.addI R R R ?_))
 refine zE (t := 19) (u := .int .u64 (rollN tt z c)) R (congrArg (Value.int .u64) roll_eq) ?_
 refine z7 (yE (i := 15) R R qk qk qk qk R qD qF R ?_)
 refine z9 16 R R (zg R fo328_1 R ?_)
 refine z7 (zi 17 R (yj sc209 R R R qU qE ?_))
 refine zh R qD ?_
 refine zN qk ?_
 refine z8 (O (E R R (zJ R R ?_)))
 refine zg R fo328_2 R ?_
 refine zf R sc3 R qC ?_
 refine zT R R R jO ?_
 refine zE (t := 26) (u := .int .i64 ((n + 1 : Nat) : Int)) R (congrArg (Value.int .i64) jO) ?_
 refine zJ R R ?_
 refine zg R fo328_2 R ?_
 refine yj sc3 R R R qU qE ?_
 refine I (O (E R R (zJ R R ?_)))
 refine zg R fo328_1 R ?_
 refine zf R sc209 R qC ?_
 exact V R R (I (zo (zy R R ⟨R, R, R⟩ qD qF)))
theorem count2_spec {rb tb : Nat} {z n : Int}  : Spec Tryz.prog 219 [.pointer (some ⟨rb, 0, none⟩)] [] [cl rb 328 [.pointer (some ⟨tb, 0, none⟩), .int .u64 z, .int .i64 n]] (fun v D' M' => v = .int .i64 n ∧ D' = [] ∧ M' = [cl rb 328 [.pointer (some ⟨tb, 0, none⟩), .int .u64 z, .int .i64 n]]) := by
 refine zv (n := 7) Tryz.func219 ?_
 intro σ D M
 refine O (V R R (I (O (E R R (zJ R R ?_)))))
 refine zg R fo328_2 R ?_
 refine zf R sc3 R qC ?_
 exact V R R (I (zo (zy R R ⟨R, R, R⟩ qD qF)))
theorem reset_spec {rb tb : Nat} {z n : Int}  : Spec Tryz.prog 233 [.pointer (some ⟨rb, 0, none⟩)] [] [cl rb 328 [.pointer (some ⟨tb, 0, none⟩), .int .u64 z, .int .i64 n]] (fun v D' M' => v = .tuple #[] ∧ D' = [] ∧ M' = [cl rb 328 [.pointer (some ⟨tb, 0, none⟩), .int .u64 0, .int .i64 0]]) := by
 refine zv (n := 8) Tryz.func233 ?_
 intro σ D M
 refine zt (E R R (E R R (zJ R R ?_)))
 refine zg R fo328_1 R ?_
 refine yj sc209 R R R qU qE ?_
 refine zJ R R ?_
 refine zg R fo328_2 R ?_
 refine yj sc3 R R R qU qE ?_
 exact zu (yS (by simp) R ⟨R, R, R⟩ qD qF)
theorem ends_spec {n : Nat} {z : Int}  : Spec Tryz.prog 218 [.int .i64 (n : Int), .int .u64 z] [] [] (fun v D' M' => v = .bool (endB n z) ∧ D' = [] ∧ M' = []) := by
 refine zv (n := 22) Tryz.func218 ?_
 intro σ D M
 refine O (V R R (I (ze (zD (O (E R R (zW R R R (V R R (I (zA R (fun h5 => ?_) (fun h5 => ?_)))))))))))
 ·try simp only [dq] at h5
  exact O (V R R (I (zo (yv (zL (zy R R ⟨congrArg Value.bool ((decide_eq_false (fun e => by have := e.1; omega)).symm), R, R⟩ qD qF))))))
 try simp only [dq] at h5
 refine O (E R R (L.geI R R R (V R R (I (zA R (fun h8 => ?_) (fun h8 => ?_))))))
 ·try simp only [dq] at h8
  exact O (V R R (I (zo (yv (zL (zy R R ⟨congrArg Value.bool ((decide_eq_true ⟨by omega, .inl jO⟩).symm), R, R⟩ qD qF))))))
 try simp only [dq] at h8
 refine O (E R R (zW R R R (V R R (I (zA R (fun h11 => ?_) (fun h11 => ?_))))))
 ·try simp only [dq] at h11
  refine O (E R R (zH R (ev1 R) qD qS (mask_spec (n := 8) jD) jF ?_))
  refine L.andI R R R ?_
  exact yi R R R (V R R (I (zo (yv (zL (zy R R ⟨congrArg Value.bool (decide_eq_decide.2 ⟨fun e => ⟨by omega, .inr (.inl ⟨by omega, e⟩)⟩, fun e => by rcases e.2 with q | q | q <;> first | exact q.2 | omega⟩), rfl, rfl⟩ qD qF))))))
 try simp only [dq] at h11
 refine zq (zS (z8 (O (E R R (zH R (ev1 R) qD qS (mask_spec (n := 5) jD) jF ?_)))))
 refine L.andI R R R ?_
 exact yi R R R (V R R (I (zo (zy R R ⟨congrArg Value.bool (decide_eq_decide.2 ⟨fun e => ⟨by omega, .inr (.inr ⟨by omega, e⟩)⟩, fun e => by rcases e.2 with q | q | q <;> first | exact q.2 | omega⟩), rfl, rfl⟩ qD qF))))
end Cv
set_option maxRecDepth 10000
namespace Cv
open Go Go.Proofs
theorem chnF_len {T : List Int} {s : List UInt8} : (chnF T s).length ≤ s.length + 1 := by
  have h := (cutW_len (T := T) (l := s) (s := ([], []))).1
  simp only [List.length_nil, Nat.zero_add] at h
  unfold chnF
  rw [List.length_append]
  have : (lastC (cutW T ([], []) s).2).length ≤ 1 := by unfold lastC; split <;> simp
  omega
theorem T.emp {σ : World} {sn : Nat} {G : Act → World → Prop} {K : Env} {D M : List Asn} (next : T σ sn G K D (all [] :: M)) : T σ sn G K D M := T.drop (fun h (H : Holds M h) => (show Holds (all [] :: M) h from ⟨fun _ => none, h, (fun _ _ e => by cases e), Hp.le.refl h, fun _ => .inl rfl, trivial, H⟩)) next

theorem cnew_spec {tb : Nat} {tt : List Int}  : Spec Tryz.prog 181 [.pointer (some ⟨tb, 0, none⟩)] [] [] (fun v D' M' => ∃ (cb rb : Nat), v = .pointer (some ⟨cb, 0, none⟩) ∧ D' = [] ∧ M' = [cl cb 313 [.pointer (some ⟨rb, 0, none⟩), .slice none 0 0], own 1 5 none 0 0 ((([] : List UInt8)).map yr), cl rb 328 [.pointer (some ⟨tb, 0, none⟩), .int .u64 (rollL tt (([] : List UInt8))), .int .i64 (((([] : List UInt8)).length : Nat) : Int)]]) := by
 refine zv (n := 7) Tryz.func181 ?_
 intro σ D M
 refine O (V R R (I (O (E R R (zp R (ev1 R) qD qS (over_spec) ?_)))))
 rintro _ _ _ ⟨rb, rfl, rfl, rfl⟩
 refine zm qA qA ?_
 refine yq R bu313 (zF R R R <| zQ (out := [Value.slice none 0 0]) R) ?_
 refine y6 R R R (fun b6 => ?_)
 refine V R R (zu (yM (sz := 1) (e := 5) ?_))
 refine y3 qP (show own 1 5 none 0 0 [] = own 1 5 none 0 0 ((([] : List UInt8)).map yr) from R) ?_
 refine y3 qP (show cl rb 328 [.pointer (some ⟨tb, 0, none⟩), .int .u64 0, .int .i64 0] = cl rb 328 [.pointer (some ⟨tb, 0, none⟩), .int .u64 (rollL tt ([] : List UInt8)), .int .i64 ((([] : List UInt8).length : Nat) : Int)] from R) ?_
 exact z8 (zo (zy R R ⟨_, _, R, R, R⟩ qD qF))
theorem take_spec {cb rb tb : Nat} {pa : Option Addr} {pn pc : Nat} {tt : List Int} {p : List UInt8}  : Spec Tryz.prog 220 [.pointer (some ⟨cb, 0, none⟩)] [] [cl cb 313 [.pointer (some ⟨rb, 0, none⟩), .slice pa pn pc], own 1 5 pa pn pc ((p).map yr), cl rb 328 [.pointer (some ⟨tb, 0, none⟩), .int .u64 (rollL tt (p)), .int .i64 (((p).length : Nat) : Int)]] (fun v D' M' => v = S p ∧ D' = [] ∧ M' = [cl cb 313 [.pointer (some ⟨rb, 0, none⟩), .slice pa 0 pc], own 1 5 pa 0 pc ((([] : List UInt8)).map yr), cl rb 328 [.pointer (some ⟨tb, 0, none⟩), .int .u64 (rollL tt (([] : List UInt8))), .int .i64 (((([] : List UInt8)).length : Nat) : Int)]]) := by
 refine zv (n := 23) Tryz.func220 ?_
 intro σ D M
 refine O (V R R (I (O (E R R (zJ R R ?_)))))
 refine zg R fo313_1 R ?_
 refine zf R yZ R qC ?_
 refine L.bytesStrO R yz zX ye R qM ?_
 refine V R R (I (O (E R R (E R R (zJ R R ?_)))))
 refine zg R fo313_1 R ?_
 refine zf R yZ R qC ?_
 refine L.sliceTo R yz sz5 R (Bd.at (x := 0) R jR) qI ?_
 refine zJ R R ?_
 refine zg R fo313_1 R ?_
 refine yj yZ R R R qU qE ?_
 refine zu (T.ownTo (h := 0) qP (Nat.zero_le _) ?_)
 refine yp pa (([] : List UInt8).map yr) qP (by simp) ?_
 refine z8 (O (E R R (zJ R R ?_)))
 refine zg R fo313_0 R ?_
 refine zf R sc310 R qC ?_
 refine zp R (ev1 R) qD qS (reset_spec) ?_
 rintro _ _ _ ⟨rfl, rfl, rfl⟩
 refine zm qA qA ?_
 refine zu (y3 qP (show cl rb 328 [.pointer (some ⟨tb, 0, none⟩), .int .u64 0, .int .i64 0] = cl rb 328 [.pointer (some ⟨tb, 0, none⟩), .int .u64 (rollL tt ([] : List UInt8)), .int .i64 ((([] : List UInt8).length : Nat) : Int)] from R) ?_)
 exact z8 (O (E R R (V R R (I (zo (zy R R ⟨R, R, R⟩ qD qF))))))
theorem cwrite_spec {cb rb tb : Nat} {pa : Option Addr} {pn pc : Nat} {tt : List Int} {p : List UInt8} {a : Option Addr} {c : Nat} {s : List UInt8} (hT : tt.length = 256) (hs : s.length ≤ 1000000) (hp : p.length ≤ 1000000) : Spec Tryz.prog 182 [.pointer (some ⟨cb, 0, none⟩), .slice a 1 c] [cl tb 211 (tt.map U), rsl 1 a 1 c ([s].map ys)] [cl cb 313 [.pointer (some ⟨rb, 0, none⟩), .slice pa pn pc], own 1 5 pa pn pc ((p).map yr), cl rb 328 [.pointer (some ⟨tb, 0, none⟩), .int .u64 (rollL tt (p)), .int .i64 (((p).length : Nat) : Int)]] (fun v D' M' => ∃ (a' pa' : Option Addr) (n' c' pn' pc' : Nat) (r : CutS), v = .slice a' n' c' ∧ (r = cutW tt ([], p) s) ∧ (r.1.length = n') ∧ D' = [] ∧ M' = [cl cb 313 [.pointer (some ⟨rb, 0, none⟩), .slice pa' pn' pc'], own 1 5 pa' pn' pc' ((r.2).map yr), cl rb 328 [.pointer (some ⟨tb, 0, none⟩), .int .u64 (rollL tt (r.2)), .int .i64 (((r.2).length : Nat) : Int)], own 1 9 a' n' c' ((r.1).map ys)]) := by
 refine zv (n := 55) Tryz.func182 ?_
 intro σ D M
 have hg0 : ([s].map ys)[0]? = some (ys s) := rfl
 refine O (V R R (I (O (V R R (zu (yM (sz := 1) (e := 9) ?_))))))
 refine y3 qP (show own 1 9 none 0 0 [] = own 1 9 none 0 0 ((([] : List (List UInt8))).map ys) from R) ?_
 refine z8 (ze (O (E R R (yb R xp R (E R R (I (zD (y8 (fun K' D' M' μ => ∃ (i n5 c5 pn5 pc5 : Nat) (a5 pa5 : Option Addr) (u : List (List UInt8)) (q : List UInt8), (i ≤ 1 ∧ ((i = 0 → u = [] ∧ q = p) ∧ (i = 1 → (u, q) = cutW tt ([], p) s)) ∧ u.length = n5) ∧ K' = [(13, .int .i64 (i : Int)), (5, .slice a5 n5 c5)] ∧ D' = [] ∧ M' = [cl cb 313 [.pointer (some ⟨rb, 0, none⟩), .slice pa5 pn5 pc5], own 1 5 pa5 pn5 pc5 ((q).map yr), cl rb 328 [.pointer (some ⟨tb, 0, none⟩), .int .u64 (rollL tt (q)), .int .i64 (((q).length : Nat) : Int)], own 1 9 a5 n5 c5 ((u).map ys)] ∧ μ = 1 - i) (.c 0 R <| .c 11 R <| .c 12 R <| zd _) (⟨0, 0, 0, pn, pc, none, pa, [], p, ⟨by omega, ⟨fun _ => ⟨R, R⟩, fun e => absurd e jD⟩, R⟩, R, R, R, R⟩) (.c 13 R <| .c 5 R <| zd _) qD qS ?_))))))))
 rintro K1 D1 M1 m1 ⟨i, n5, c5, pn5, pc5, a5, pa5, u, q, ⟨hi, hI, hun⟩, rfl, rfl, rfl, rfl⟩
 refine zM qA qA qA ?_
 refine O (zW R R R (I (ze (zA R (fun h14 => ?_) (fun h14 => ?_)))))
 ·try simp only [dq] at h14
  refine zq (z8 (ze (zD (ze ?_))))
  obtain rfl : i = 0 := by omega
  obtain ⟨h1, h2⟩ := hI.1 rfl
  have h1 := h1.symm
  have h2 := h2.symm
  subst h1
  subst h2
  refine zt (yP (i := 0) R xp sz9 R R qM jR qG (fun b15 o15 => ?_))
  refine zf R sc9 R qC ?_
  refine V R R (I (O (E R R (L.strBytes (l := s) R ye yz zX R (fun b18 c18 => ?_)))))
  refine yb R yz R (E R R (I (zD (y8 (fun K' D' M' μ => ∃ (j n5 c5 pn5 pc5 : Nat) (a5 pa5 : Option Addr) (u : List (List UInt8)) (q : List UInt8), (j ≤ s.length ∧ (u, q) = cutW tt ([], p) (s.take j) ∧ u.length = n5) ∧ K' = [(20, .int .i64 (j : Int)), (5, .slice a5 n5 c5)] ∧ D' = [] ∧ M' = [cl cb 313 [.pointer (some ⟨rb, 0, none⟩), .slice pa5 pn5 pc5], own 1 5 pa5 pn5 pc5 ((q).map yr), cl rb 328 [.pointer (some ⟨tb, 0, none⟩), .int .u64 (rollL tt (q)), .int .i64 (((q).length : Nat) : Int)], own 1 9 a5 n5 c5 ((u).map ys)] ∧ μ = s.length - j) (.c 0 R <| .c 11 R <| .c 12 R <| .c 13 R <| .c 18 R <| .c 19 R <| zd _) (⟨0, n5, c5, pn5, pc5, a5, pa5, [], p, ⟨Nat.zero_le _, R, hun⟩, R, R, R, R⟩) (.c 20 R <| .c 5 R <| zd _) qD qS ?_))))
  rintro K1 D1 M1 m1 ⟨j, n5, c5, pn5, pc5, a5, pa5, u, q, ⟨hj, hqu, hun⟩, rfl, rfl, rfl, rfl⟩
  refine zM qA qA qA ?_
  refine xo (rows := q.map yr) qM (fun hql hqc => ?_)
  rw [List.length_map] at hql
  refine O (zW R R R (I (ze (zA R (fun h21 => ?_) (fun h21 => ?_)))))
  ·try simp only [dq] at h21
   refine zq (z8 (ze (zD (ze ?_))))
   have hgj : s[j]? = some (gd s j) := y9 jO
   obtain ⟨c8, hc8⟩ : ∃ c, c = gd s j := ⟨_, rfl⟩
   rw [← hc8] at hgj
   have hst := cutW_s (T := tt) (s := ([], p)) hgj
   have hln := cutW_len (T := tt) (l := s.take j) (s := ([], p))
   rw [← hqu, List.length_take] at hln
   rw [← hqu] at hst
   simp only at hln hst
   refine zt (yP (i := j) R yz sz5 R R qM jR qG (fun b22 o22 => ?_))
   refine zf R sc5 R qC ?_
   refine V R R (I (O (E R R (E R R (zJ R R ?_)))))
   refine zg R fo313_1 R ?_
   refine zf R yZ R qC ?_
   refine E R R (yl R bs171 jD (zF R R R <| zQ (out := []) R) (fun b30 => ?_))
   refine x6 R yz el5 R R qP qM R qO1 qI qI (fun a31 c31 => ?_)
   refine zJ R R ?_
   refine zg R fo313_1 R ?_
   refine yj yZ R R R qU qE ?_
   refine zu (yp _ ((q ++ [c8]).map yr) qP (by rw [List.map_append]; rfl) ?_)
   refine z8 (ze ?_)
   have hqr : rollL tt (q ++ [c8]) = rollN tt (rollL tt q) c8 := rollL_s
   refine zt (E R R (zJ R R ?_))
   refine zg R fo313_0 R ?_
   refine zf R sc310 R qC ?_
   refine E R R (zp R (ev2 R R) qD qS (next_spec (tt := tt) (z := rollL tt q) (n := q.length) (c := c8) hT (by simp only [List.length_nil] at hln; omega)) ?_)
   rintro _ _ _ ⟨rfl, rfl, rfl⟩
   refine zm qA qA ?_
   refine V R R (zu (y3 qP (show cl rb 328 [.pointer (some ⟨tb, 0, none⟩), .int .u64 (rollN tt (rollL tt q) c8), .int .i64 ((q.length + 1 : Nat) : Int)] = cl rb 328 [.pointer (some ⟨tb, 0, none⟩), .int .u64 (rollL tt (q ++ [c8])), .int .i64 (((q ++ [c8]).length : Nat) : Int)] from by rw [rollL_s, List.length_append]; rfl) ?_))
   refine z8 (O (E R R (zJ R R ?_)))
   refine zg R fo313_0 R ?_
   refine zf R sc310 R qC ?_
   refine zp R (ev1 R) qD qS (count2_spec) ?_
   rintro _ _ _ ⟨rfl, rfl, rfl⟩
   refine zm qA qA ?_
   refine E R R (zH R (ev2 R R) qD qS (ends_spec (n := (q ++ [c8]).length) (z := rollN tt (rollL tt q) c8)) jF ?_)
   refine I (zA R (fun h46 => ?_) (fun h46 => ?_))
   ·try simp only [dq] at h46
    have hcs : cutS tt (u, q) c8 = (u ++ [q ++ [c8]], []) := cutS_yes (by rw [List.length_append] at h46; exact h46)
    refine zt (E R R (E R R (zp R (ev1 R) qD qS (take_spec (p := q ++ [c8])) ?_)))
    rintro _ _ _ ⟨rfl, rfl, rfl⟩
    refine zm qA qA ?_
    refine yl R bs27 jD (zF R R R <| zQ (out := []) R) (fun b50 => ?_)
    refine x6 R xp el9 R R qP qM R qO1 qI qI (fun a51 c51 => ?_)
    refine V R R (zu (yp _ ((u ++ [q ++ [c8]]).map ys) qP (by rw [List.map_append]; rfl) ?_))
    refine zS (z8 (zt (zT R R R jO ?_)))
    exact E R R (I (zV ⟨j + 1, n5 + 1, _, _, _, _, _, u ++ [q ++ [c8]], [], ⟨by omega, by rw [hst, hcs], by rw [List.length_append, hun]; rfl⟩, R, R, R, R⟩ qI (.c 20 R <| .c 5 R <| zd _) (.c 0 R <| .c 11 R <| .c 12 R <| .c 13 R <| .c 18 R <| .c 19 R <| zd _) qD qD qF))
   try simp only [dq] at h46
   have hcs : cutS tt (u, q) c8 = (u, q ++ [c8]) := cutS_no (by rw [List.length_append] at h46; exact h46)
   refine zq (zS (z8 (zt (zT R R R jO ?_))))
   exact E R R (I (zV ⟨j + 1, n5, _, _, _, _, _, u, q ++ [c8], ⟨by omega, by rw [hst, hcs], hun⟩, R, R, R, R⟩ qI (.c 20 R <| .c 5 R <| zd _) (.c 0 R <| .c 11 R <| .c 12 R <| .c 13 R <| .c 18 R <| .c 19 R <| zd _) qD qD qF))
  try simp only [dq] at h21
  obtain rfl : j = s.length := by omega
  rw [List.take_length] at hqu
  refine y4 (zG (zG (y5 (zS (z8 (zt (zT R R R jO ?_)))))))
  exact E R R (I (zV ⟨0 + 1, _, _, _, _, _, _, u, q, ⟨by omega, ⟨fun e => absurd e jO, fun _ => hqu⟩, hun⟩, R, R, R, R⟩ qI (.c 13 R <| .c 5 R <| zd _) (.c 0 R <| .c 11 R <| .c 12 R <| zd _) qD qD qF))
 try simp only [dq] at h14
 obtain rfl : i = 1 := by omega
 have hfin := hI.2 rfl
 exact y4 (zG (zG (y5 (z8 (O (E R R (V R R (I (zo (zy R R ⟨_, _, _, _, _, _, (u, q), R, hfin, hun, R, R⟩ qD qF))))))))))
theorem cclose_spec {cb rb tb : Nat} {pa : Option Addr} {pn pc : Nat} {tt : List Int} {p : List UInt8}  : Spec Tryz.prog 183 [.pointer (some ⟨cb, 0, none⟩)] [] [cl cb 313 [.pointer (some ⟨rb, 0, none⟩), .slice pa pn pc], own 1 5 pa pn pc ((p).map yr), cl rb 328 [.pointer (some ⟨tb, 0, none⟩), .int .u64 (rollL tt (p)), .int .i64 (((p).length : Nat) : Int)]] (fun v D' M' => v = .tuple #[S p, .bool (decide (p ≠ []))] ∧ D' = [] ∧ M' = []) := by
 refine zv (n := 12) Tryz.func183 ?_
 intro σ D M
 refine xo (rows := p.map yr) qM (fun hpl hpc => ?_)
 rw [List.length_map] at hpl
 refine O (V R R (V R R (I (ze (O (E R R (zJ R R ?_)))))))
 refine zg R fo313_1 R ?_
 refine zf R yZ R qC ?_
 refine yb R yz R (yi R R R (I (zA R (fun h9 => ?_) (fun h9 => ?_))))
 ·try simp only [dq] at h9
  refine O (V R R (V R R (I (zo (zL ?_)))))
  obtain rfl : p = [] := List.length_eq_zero_iff.1 jO
  exact x8 R R R ⟨R, R, R⟩ qD qF
 try simp only [dq] at h9
 refine zq (z8 (O (E R R (zp R (ev1 R) qD qS (take_spec (p := p)) ?_))))
 rintro _ _ _ ⟨rfl, rfl, rfl⟩
 refine zm qA qA ?_
 exact V R R (V R R (I (zo (x8 R R R ⟨by rw [decide_eq_true (show p ≠ [] from fun e => by rw [e] at hpl; simp at hpl; omega)], R, R⟩ qD qF))))
theorem allit_spec {c1 c2 tb l : Nat} {tt : List Int} {s : List UInt8} {ψ : Asn} {J : List (List UInt8) → Asn} (hY : ∀ pre x, (pre.length < (chnF tt s).length) → YSpec Tryz.prog l [S x] [ψ] [J pre] (fun v D' M' => v = .bool true ∧ D' = [] ∧ M' = [J (pre ++ [x])])) (hT : tt.length = 256) (hs : s.length ≤ 1000000) : Spec Tryz.prog 180 [fnY l, .pointer (some ⟨c1, 0, none⟩), .pointer (some ⟨c2, 0, none⟩)] [dall [cl c1 139 [.pointer (some ⟨tb, 0, none⟩)], cl c2 9 [S s], cl tb 211 (tt.map U)], ψ] [all [], J []] (fun v D' M' => v = .tuple #[] ∧ D' = [] ∧ M' = [all [], J (chnF tt s)]) := by
 refine zv (n := 34) Tryz.func180 ?_
 intro σ D M
 refine T.unpackD (X := [cl c1 139 [.pointer (some ⟨tb, 0, none⟩)], cl c2 9 [S s], cl tb 211 (tt.map U)]) qM ?_
 refine T.norm (Y := []) qA AppL.nil ?_
 refine O (zf R sc139 R qC ?_)
 refine zp R (ev1 R) qD qS (cnew_spec (tt := tt)) ?_
 rintro _ _ _ ⟨cb, rb, rfl, rfl, rfl⟩
 refine zm qA qA ?_
 refine V R R (I (ze (O (E R R (zf R sc9 R qC ?_)))))
 refine yl R bs27 jD (zF R R R <| zQ (out := []) R) (fun b13 => ?_)
 refine yR (len := 1) qP (rows := [s].map ys) (sz := 1) (by rfl) R (by simp) ?_
 refine yF qP ?_
 refine zp R (ev2 R R) qD qS (cwrite_spec (tt := tt) (p := []) (s := s) hT hs (Nat.zero_le _)) ?_
 rintro _ _ _ ⟨wa, pa2, wn, wc, pn2, pc2, r, rfl, hr, hrn, rfl, rfl⟩
 refine zm qA qA ?_
 have hrl := cutW_len (T := tt) (l := s) (s := ([], []))
 rw [← hr] at hrl
 simp only [List.length_nil, Nat.zero_add] at hrl
 have hch : chnF tt s = r.1 ++ lastC r.2 := by unfold chnF; rw [← hr]
 refine yb R xp R (E R R (zu (yQ (rows := r.1.map ys) qP ?_)))
 refine z8 (zD (y3 qP (show J [] = J (r.1.take 0) from by rw [List.take_zero]) ?_))
 refine y8 (fun K' D' M' μ => ∃ (i : Nat), (i ≤ wn) ∧ K' = [(16, .int .i64 (i : Int))] ∧ D' = [] ∧ M' = [J (r.1.take i)] ∧ μ = wn - i) (.c 0 R <| .c 4 R <| .c 14 R <| .c 15 R <| zd _) (⟨0, Nat.zero_le _, R, R, R, R⟩) (.c 16 R <| zd _) qD qS ?_
 rintro K1 D1 M1 m1 ⟨i, hi, rfl, rfl, rfl, rfl⟩
 refine zM qA qA qA ?_
 refine O (zW R R R (I (ze (zA R (fun h17 => ?_) (fun h17 => ?_)))))
 ·try simp only [dq] at h17
  refine zq (z8 (ze (zD (ze ?_))))
  have hgi : r.1[i]? = some (gd r.1 i) := y9 jO
  obtain ⟨x, hx⟩ : ∃ x, x = gd r.1 i := ⟨_, rfl⟩
  rw [← hx] at hgi
  have hgr : (r.1.map ys)[i]? = some (ys x) := yJ hgi
  have hlt : (r.1.take i).length < (chnF tt s).length := by rw [hch, List.length_append, List.length_take]; omega
  refine zt (yP (i := i) R xp sz9 R R qM jR qG (fun b18 o18 => ?_))
  refine zf R sc9 R qC ?_
  refine V R R (I (O (E R R (E R R (L.callY (M0 := [J (r.1.take i)]) R R R (evs.cons R xu) qD qS (hY (r.1.take i) x hlt) ?_)))))
  rintro _ _ _ ⟨rfl, rfl, rfl⟩
  refine zm qA qA ?_
  refine x7 R R (I (zR R R ?_))
  refine zq (zS (z8 (zt (zT R R R jO ?_))))
  refine E R R (I (y3 qP (show J (r.1.take i ++ [x]) = J (r.1.take (i + 1)) from by rw [List.take_add_one, hgi]; rfl) ?_))
  exact zV ⟨i + 1, jO, R, R, R, R⟩ qI (.c 16 R <| zd _) (.c 0 R <| .c 4 R <| .c 14 R <| .c 15 R <| zd _) qD qD qF
 try simp only [dq] at h17
 obtain rfl : wn = i := by omega
 rw [List.take_of_length_le jO]
 refine y4 (zG (zG (y5 (z8 (O (E R R (zp R (ev1 R) qD qS (cclose_spec (tt := tt) (p := r.2)) ?_)))))))
 rintro _ _ _ ⟨rfl, rfl, rfl⟩
 refine zm qA qA ?_
 refine E R R (zr R R R (zr R R R (V R R (V R R (I (O (E R R (I (zA R (fun h30 => ?_) (fun h30 => ?_))))))))))
 ·try simp only [dq] at h30
  have h30 : r.2 ≠ [] := by simpa using h30
  refine zt (E R R (E R R (L.callY (M0 := [J r.1]) R R R (evs.cons R xu) qD qS (hY r.1 r.2 (by rw [hch, List.length_append]; unfold lastC; rw [if_neg h30]; simp)) ?_)))
  rintro _ _ _ ⟨rfl, rfl, rfl⟩
  refine zm qA qA ?_
  refine zu (y3 qP (show J (r.1 ++ [r.2]) = J (chnF tt s) from by rw [hch]; unfold lastC; rw [if_neg h30]) ?_)
  exact yS (by simp) R ⟨R, R, R⟩ qD qF
 try simp only [dq] at h30
 have h30 : r.2 = [] := by simpa using h30
 refine zq (y3 qP (show J r.1 = J (chnF tt s) from by rw [hch]; unfold lastC; rw [if_pos h30, List.append_nil]) ?_)
 exact yS (by simp) R ⟨R, R, R⟩ qD qF
theorem all_iter {c1 c2 tb : Nat} {tt : List Int} {s : List UInt8} (hT : tt.length = 256) (hs : s.length ≤ 1000000) : Iter Tryz.prog 180 [.pointer (some ⟨c1, 0, none⟩), .pointer (some ⟨c2, 0, none⟩)] (fun x : List UInt8 => [S x]) (fun pre x => pre.length < (chnF tt s).length) (dall [cl c1 139 [.pointer (some ⟨tb, 0, none⟩)], cl c2 9 [S s], cl tb 211 (tt.map U)]) (all []) (all []) (fun xs => xs = chnF tt s) :=
 ⟨fun l ψ J hY => (allit_spec hY hT hs).imp (fun v D' M' ⟨_, h3, h4⟩ => ⟨_, rfl, h3, h4⟩)⟩
theorem all_spec {tb : Nat} {tt : List Int} {s : List UInt8}  : Spec Tryz.prog 120 [.pointer (some ⟨tb, 0, none⟩), S s] [cl tb 211 (tt.map U)] [] (fun v D' M' => ∃ (c1 c2 : Nat), v = fnV 180 [.pointer (some ⟨c1, 0, none⟩), .pointer (some ⟨c2, 0, none⟩)] ∧ D' = [dall [cl c1 139 [.pointer (some ⟨tb, 0, none⟩)], cl c2 9 [S s], cl tb 211 (tt.map U)]] ∧ M' = []) := by
 refine zv (n := 6) Tryz.func120 ?_
 intro σ D M
 refine O (y6 R R R (fun b2 => ?_))
 refine y6 R R R (fun b3 => ?_)
 refine V R R (zu (zO (A := cl b2 139 [.pointer (some ⟨tb, 0, none⟩)]) qP ?_))
 refine zO (A := cl b3 9 [S s]) qP ?_
 refine z8 (O (xP R (ev2 R R) ?_))
 refine V R R (zu (T.packD (X := [cl b2 139 [.pointer (some ⟨tb, 0, none⟩)], cl b3 9 [S s], cl tb 211 (tt.map U)]) qD ?_))
 exact z8 (zo (zy R R ⟨b2, b3, R, R, R⟩ qD qF))
theorem cut2_spec {tb : Nat} {tt : List Int} {s : List UInt8} (hT : tt.length = 256) (hs : s.length ≤ 1000000) : Spec Tryz.prog 64 [.pointer (some ⟨tb, 0, none⟩), S s] [cl tb 211 (tt.map U)] [] (fun v D' M' => ∃ (a' : Option Addr) (n' c' : Nat), v = .slice a' n' c' ∧ ((chnF tt s).length = n') ∧ D' = [] ∧ M' = [own 1 9 a' n' c' ((chnF tt s).map ys)]) := by
 refine zv (n := 16) Tryz.func64 ?_
 intro σ D M
 refine O (V R R (I (O (zC R ze27 (fun b5 => ?_)))))
 refine zu (yM (sz := 1) (e := 9) ?_)
 refine y3 qP (show own 1 9 none 0 0 [] = own 1 9 none 0 0 ((([] : List (List UInt8))).map ys) from R) ?_
 refine T.emp ?_
 refine z8 (ze (O (E R R (E R R (zp R (ev2 R R) qD qS (all_spec (tt := tt) (s := s)) ?_)))))
 rintro _ _ _ ⟨c1, c2, rfl, rfl, rfl⟩
 refine zm qA qA ?_
 refine I (zD (T.mkJ (J := (fun (pre : List (List UInt8)) => exs fun (a8 : Option Addr) => exs fun (n8 : Nat) => exs fun (c8 : Nat) => pur (pre.length = n8) (all [cl b5 27 [.slice a8 n8 c8], own 1 9 a8 n8 c8 ((pre).map ys)]) : List (List UInt8) → Asn) []) (L := (fun (pre : List (List UInt8)) (a8 : Option Addr) (n8 : Nat) (c8 : Nat) => ([cl b5 27 [.slice a8 n8 c8], own 1 9 a8 n8 c8 ((pre).map ys)] : List Asn)) [] (none) (0) (0)) qS (yO (none) (yO (0) (yO (0) (pur.in R (Ent.refl _))))) ?_))
 refine T.rangeFunc (encs := fun x : List UInt8 => [S x]) (all_iter (c1 := c1) (c2 := c2) (tb := tb) hT hs) R qk (fun _ => rfl) jD (fun x => [(10, S x)]) (fun _ => rfl) [] (fun (pre : List (List UInt8)) => exs fun (a8 : Option Addr) => exs fun (n8 : Nat) => exs fun (c8 : Nat) => pur (pre.length = n8) (all [cl b5 27 [.slice a8 n8 c8], own 1 9 a8 n8 c8 ((pre).map ys)]) : List (List UInt8) → Asn) (.c 5 R <| zd _) qD qD qS ?_ ?_
 ·intro σ1 l1 r1 pre x D1 M1 hok hr1
  refine T.norm2 qA qA ?_
  refine xk qP (fun a8 => ?_)
  refine xk qP (fun n8 => ?_)
  refine xk qP (fun c8 => ?_)
  refine T.pur qP (fun hJ => ?_)
  refine T.unfold _ qP R qA ?_
  have hlc := chnF_len (T := tt) (s := s)
  refine zt (V R R (I (T.begin hr1.1 qP ?_)))
  refine zD (zt (zf R sc27 R qC ?_))
  refine E R R (yl R bs27 jD (zF R R R <| zQ (out := []) R) (fun b13 => ?_))
  refine x6 R xp el9 R R qP qM R qO1 qI qI (fun a14 c14 => ?_)
  refine yj sc27 R R R qU qE ?_
  refine zu (zS (yp _ ((pre ++ [x]).map ys) qP (by rw [List.map_append]; rfl) ?_))
  refine T.mkJ (J := (fun (pre : List (List UInt8)) => exs fun (a8 : Option Addr) => exs fun (n8 : Nat) => exs fun (c8 : Nat) => pur (pre.length = n8) (all [cl b5 27 [.slice a8 n8 c8], own 1 9 a8 n8 c8 ((pre).map ys)]) : List (List UInt8) → Asn) (pre ++ [x])) (L := (fun (pre : List (List UInt8)) (a8 : Option Addr) (n8 : Nat) (c8 : Nat) => ([cl b5 27 [.slice a8 n8 c8], own 1 9 a8 n8 c8 ((pre).map ys)] : List Asn)) (pre ++ [x]) (_) (n8 + 1) (_)) qS (yO (_) (yO (n8 + 1) (yO (_) (pur.in (by rw [List.length_append, hJ]; rfl) (Ent.refl _))))) ?_
  exact T.roundEnd hr1 qP qD qF
 intro b1 xs hxs
 refine xk qP (fun a8 => ?_)
 refine xk qP (fun n8 => ?_)
 refine xk qP (fun c8 => ?_)
 refine T.pur qP (fun hJ => ?_)
 refine T.unfold _ qP R qA ?_
 subst hxs
 refine zS (z8 (O (zf R sc27 R qC ?_)))
 refine V R R (I (zo (T.unmark (.inl R) qP ?_)))
 exact zy R R ⟨_, _, _, R, hJ, R, R⟩ qD qF
end Cv
