/-
  The walks: sorting names: insertion, heaps.
-/
import Derived.Test.YtahkbpiinbepcaaGreatFA11
import Derived.Test.YtahkbpiinbepcaaGreatProg
import Derived.KernelRfl
set_option linter.unusedVariables false
set_option linter.unusedSimpArgs false
set_option linter.unusedSectionVars false
set_option maxHeartbeats 400000
set_option maxRecDepth 10000
namespace Cv
open Go Go.Proofs

def lenTab : List UInt8 := [0, 1, 2, 2, 3, 3, 3, 3, 4, 4, 4, 4, 4, 4, 4, 4, 5, 5, 5, 5, 5, 5, 5, 5, 5, 5, 5, 5, 5, 5, 5, 5, 6, 6, 6, 6, 6, 6, 6, 6, 6, 6, 6, 6, 6, 6, 6, 6, 6, 6, 6, 6, 6, 6, 6, 6, 6, 6, 6, 6, 6, 6, 6, 6, 7, 7, 7, 7, 7, 7, 7, 7, 7, 7, 7, 7, 7, 7, 7, 7, 7, 7, 7, 7, 7, 7, 7, 7, 7, 7, 7, 7, 7, 7, 7, 7, 7, 7, 7, 7, 7, 7, 7, 7, 7, 7, 7, 7, 7, 7, 7, 7, 7, 7, 7, 7, 7, 7, 7, 7, 7, 7, 7, 7, 7, 7, 7, 7, 8, 8, 8, 8, 8, 8, 8, 8, 8, 8, 8, 8, 8, 8, 8, 8, 8, 8, 8, 8, 8, 8, 8, 8, 8, 8, 8, 8, 8, 8, 8, 8, 8, 8, 8, 8, 8, 8, 8, 8, 8, 8, 8, 8, 8, 8, 8, 8, 8, 8, 8, 8, 8, 8, 8, 8, 8, 8, 8, 8, 8, 8, 8, 8, 8, 8, 8, 8, 8, 8, 8, 8, 8, 8, 8, 8, 8, 8, 8, 8, 8, 8, 8, 8, 8, 8, 8, 8, 8, 8, 8, 8, 8, 8, 8, 8, 8, 8, 8, 8, 8, 8, 8, 8, 8, 8, 8, 8, 8, 8, 8, 8, 8, 8, 8, 8, 8, 8, 8, 8, 8, 8, 8, 8, 8, 8, 8, 8]
theorem lenTab_ok : ∀ m : Fin 256, BitsL m.1 (gd lenTab m.1).toNat ∧ (gd lenTab m.1).toNat ≤ 8 := by
 have : ∀ m : Fin 256, (m.1 < 2 ^ (gd lenTab m.1).toNat ∧ (m.1 = 0 ∨ 2 ^ (gd lenTab m.1).toNat ≤ 2 * m.1)) ∧ (gd lenTab m.1).toNat ≤ 8 := by decide +kernel
 exact fun m => ⟨⟨(this m).1.1, (this m).1.2⟩, (this m).2⟩
theorem fdiv256 (n : Nat) : Int.fdiv (n : Int) (2 ^ (min (8 : Int).toNat IntKind.u64.bits)) = ((n / 256 : Nat) : Int) := by
 show Int.fdiv (n : Int) 256 = _
 rw [Int.fdiv_eq_ediv_of_nonneg _ jO]; omega
theorem u8_nat {m : Nat} (h : m < 256) : (UInt8.ofNat m).toNat = m := by simp; omega
theorem Lconv8 {z : Int} {m : Nat} (h : z = (m : Int)) (hm : m < 256) : (.int .u8 (IntKind.u8.wrap z) : Value) = Y (UInt8.ofNat m) := by
 subst h
 show Value.int .u8 _ = Value.int .u8 _
 rw [wrap_u8, show ((m : Int) % 256).toNat = m by omega]
theorem len64w_spec {n : Nat} (hn : n < 65536) : Spec Tryz.prog 154 [.int .u64 (n : Int)] [] [] (fun v D' M' => ∃ (k : Nat), v = .int .i64 (k : Int) ∧ (BitsL n k) ∧ (k ≤ 16) ∧ D' = [] ∧ M' = []) := by
 refine zC (n := 25) Tryz.func154 ?_
 intro σ D M
 refine z6 (z8 (z9 rfl rfl (z7 (z4 (z6 (z6 (z8 (z5 rfl rfl (x6 rfl rfl rfl (z7 (z4 (ym rfl (decide_eq_false jO) ?_))))))))))))
 refine zm (z4 (z6 (z6 (z8 (z5 rfl rfl (x6 rfl rfl rfl (z7 (z4 (ym rfl (decide_eq_false jO) ?_)))))))))
 refine zm (z4 (z6 (z6 (z8 (z5 rfl rfl (x6 rfl rfl rfl (z7 (z4 (yu (fun K' D' M' => ∃ (z0 a0 : Int), (∃ m c : Nat, m < 256 ∧ z0 = (m : Int) ∧ a0 = (c : Int) ∧ c ≤ 8 ∧ ∀ k, BitsL m k → BitsL n (c + k)) ∧ K' = [(0, .int .u64 z0), (2, .int .i64 a0)] ∧ D' = [] ∧ M' = []) (M0 := []) (za _) qS ?_ ?_)))))))))
 ·skip
  refine zo rfl (fun h14 => ?_) (fun h14 => ?_)
  ·try simp only [dq] at h14
   refine z6 (z8 (z5 rfl rfl (L.shrI rfl rfl rfl qI ?_)))
   refine z9 rfl rfl (z7 (z4 (z8 (z5 rfl rfl (zH rfl rfl rfl jO ?_)))))
   exact z9 rfl rfl (z7 (z4 (zK ⟨_, _, ⟨n / 256, 8, by omega, fdiv256 n, rfl, by omega, fun k h => h.up jO⟩, rfl, rfl, rfl⟩ (.c 0 rfl <| .c 2 rfl <| za _) (za _) qD qD qF)))
  ·try simp only [dq] at h14
   exact zm (z4 (zK ⟨_, _, ⟨n, 0, by omega, rfl, rfl, by omega, fun k h => by rw [Nat.zero_add]; exact h⟩, rfl, rfl, rfl⟩ (.c 0 rfl <| .c 2 rfl <| za _) (za _) qD qD qF))
 rintro _ _ _ ⟨z0, a0, hz0, rfl, rfl, rfl⟩
 refine zF qA qA qA ?_
 refine z4 (z6 ?_)
 obtain ⟨m, c, hm, hmz, hac, hc8, hmk⟩ := hz0
 subst hac
 obtain ⟨hT1, hT2⟩ := lenTab_ok ⟨m, hm⟩
 have hgt : lenTab[m]? = some (gd lenTab m) := zJ (Nat.lt_of_lt_of_eq hm rfl)
 have h256 := (gd lenTab m).toNat_lt
 have h9 : (gd lenTab m).toNat ≤ 8 := hT2
 refine z8 (z5 rfl rfl (z5 rfl rfl (L.convI rfl xA zY rfl ?_)))
 refine zv (t := 21) (u := Y (UInt8.ofNat m)) rfl (Lconv8 jO hm) ?_
 refine L.indexS (i := (UInt8.ofNat m).toNat) rfl yy rfl rfl jR (show lenTab[(UInt8.ofNat m).toNat]? = some (gd lenTab m) from by rw [u8_nat hm]; exact hgt) ?_
 refine L.convN rfl zY xf rfl qI ?_
 refine zH rfl rfl rfl jO ?_
 refine zv (t := 24) (u := .int .i64 ((c + (gd lenTab m).toNat : Nat) : Int)) rfl (congrArg (Value.int .i64) jO) ?_
 exact z9 rfl rfl (z7 (z4 (zi (zz rfl rfl ⟨_, rfl, hmk _ hT1, by omega, rfl, rfl⟩ qD qF))))
theorem lenw_spec {n : Nat} (hn : n < 65536) : Spec Tryz.prog 120 [.int .u64 (n : Int)] [] [] (fun v D' M' => ∃ (k : Nat), v = .int .i64 (k : Int) ∧ (BitsL n k) ∧ (k ≤ 16) ∧ D' = [] ∧ M' = []) := by
 refine zC (n := 8) Tryz.func120 ?_
 intro σ D M
 refine z6 (z8 (z9 rfl rfl (z7 (z4 (z6 (ym rfl rfl ?_))))))
 refine zm (z4 (z6 (z8 (z5 rfl rfl (zx rfl (ev1 rfl) qD qS (len64w_spec hn) ?_)))))
 rintro _ _ _ ⟨k, rfl, hk, hk16, rfl, rfl⟩
 refine zt qA qA ?_
 exact z9 rfl rfl (z7 (z4 (zi (zz rfl rfl ⟨k, rfl, hk, hk16, rfl, rfl⟩ qD qF))))
theorem npow_spec {n : Nat} (hn : n < 65536) : Spec Tryz.prog 170 [.int .i64 (n : Int)] [] [] (fun v D' M' => ∃ (k : Nat), v = .int .u64 ((2 ^ k : Nat) : Int) ∧ (BitsL n k) ∧ (k ≤ 16) ∧ D' = [] ∧ M' = []) := by
 refine zC (n := 7) Tryz.func170 ?_
 intro σ D M
 refine z6 (z8 (z9 rfl rfl (z7 (z4 (z6 (z8 (z5 rfl rfl (L.convU rfl xf xH rfl qI ?_))))))))
 refine zx rfl (ev1 rfl) qD qS (lenw_spec hn) ?_
 rintro _ _ _ ⟨k, rfl, hk, hk16, rfl, rfl⟩
 refine zt qA qA ?_
 refine L.shlI rfl rfl rfl qI ?_
 refine zv (t := 6) (u := .int .u64 ((2 ^ k : Nat) : Int)) rfl (congrArg (Value.int .u64) (shl1 jO)) ?_
 exact z9 rfl rfl (z7 (z4 (zi (zz rfl rfl ⟨k, rfl, hk, hk16, rfl, rfl⟩ qD qF))))
theorem xnext_spec {b : Nat} {z : Int}  : Spec Tryz.prog 171 [.pointer (some ⟨b, 0, none⟩)] [] [cl b 268 [.int .u64 z]] (fun v D' M' => ∃ (y : Int), v = .int .u64 y ∧ D' = [] ∧ M' = [cl b 268 [.int .u64 y]]) := by
 refine zC (n := 33) Tryz.func171 ?_
 intro σ D M
 refine z6 (z8 (z9 rfl rfl (z7 (z4 (z6 (yt (clsL [1, 0, 0, 1, 0, 0, 1, 1, 0, 2]) qk ?_))))))
 refine ze 0 rfl rfl (z5 rfl rfl (zd (ze 3 rfl rfl (z5 rfl rfl (zd (xn (i := 1) rfl rfl qk qk qk qk rfl qD qF rfl ?_))))))
 refine y8 (i := 2) rfl rfl rfl rfl qk qk qk qk rfl qD qF ?_
 refine zh rfl sc268 rfl qC ?_
 refine zd (xn (i := 4) rfl rfl qk qk qk qk rfl qD qF rfl ?_)
 refine y8 (i := 5) rfl rfl rfl rfl qk qk qk qk rfl qD qF ?_
 refine zh rfl sc268 rfl qC ?_
 refine zd (ze 6 rfl rfl (L.shlI rfl rfl rfl qI ?_))
 refine zd (ze 7 rfl rfl (L.xorI rfl rfl rfl ?_))
 refine zd (xn (i := 8) rfl rfl qk qk qk qk rfl qD qF rfl ?_)
 refine zy 9 rfl (yv sc268 rfl rfl rfl qU qE ?_)
 refine zw rfl qD ?_
 refine y6 qk ?_
 refine z4 (z6 (yt (clsL [1, 0, 0, 1, 0, 0, 1, 1, 0, 2]) qk ?_))
 refine ze 0 rfl rfl (z5 rfl rfl (zd (ze 3 rfl rfl (z5 rfl rfl (zd (xn (i := 1) rfl rfl qk qk qk qk rfl qD qF rfl ?_))))))
 refine y8 (i := 2) rfl rfl rfl rfl qk qk qk qk rfl qD qF ?_
 refine zh rfl sc268 rfl qC ?_
 refine zd (xn (i := 4) rfl rfl qk qk qk qk rfl qD qF rfl ?_)
 refine y8 (i := 5) rfl rfl rfl rfl qk qk qk qk rfl qD qF ?_
 refine zh rfl sc268 rfl qC ?_
 refine zd (ze 6 rfl rfl (L.shrI rfl rfl rfl qI ?_))
 refine zd (ze 7 rfl rfl (L.xorI rfl rfl rfl ?_))
 refine zd (xn (i := 8) rfl rfl qk qk qk qk rfl qD qF rfl ?_)
 refine zy 9 rfl (yv sc268 rfl rfl rfl qU qE ?_)
 refine zw rfl qD ?_
 refine y6 qk ?_
 refine z4 (z6 (yt (clsL [1, 0, 0, 1, 0, 0, 1, 1, 0, 2]) qk ?_))
 refine ze 0 rfl rfl (z5 rfl rfl (zd (ze 3 rfl rfl (z5 rfl rfl (zd (xn (i := 1) rfl rfl qk qk qk qk rfl qD qF rfl ?_))))))
 refine y8 (i := 2) rfl rfl rfl rfl qk qk qk qk rfl qD qF ?_
 refine zh rfl sc268 rfl qC ?_
 refine zd (xn (i := 4) rfl rfl qk qk qk qk rfl qD qF rfl ?_)
 refine y8 (i := 5) rfl rfl rfl rfl qk qk qk qk rfl qD qF ?_
 refine zh rfl sc268 rfl qC ?_
 refine zd (ze 6 rfl rfl (L.shlI rfl rfl rfl qI ?_))
 refine zd (ze 7 rfl rfl (L.xorI rfl rfl rfl ?_))
 refine zd (xn (i := 8) rfl rfl qk qk qk qk rfl qD qF rfl ?_)
 refine zy 9 rfl (yv sc268 rfl rfl rfl qU qE ?_)
 refine zw rfl qD ?_
 refine y6 qk ?_
 refine z4 (z6 (z8 (z5 rfl rfl (yi rfl rfl ?_))))
 refine zh rfl sc268 rfl qC ?_
 exact z9 rfl rfl (z7 (z4 (zi (zz rfl rfl ⟨_, rfl, rfl, rfl⟩ qD qF))))
theorem ord2_spec {g pb po len cap : Nat} {cf : ID32 → ID32 → Int} {xs : List ID32} (hO : SWO cf) (hI : ∀ x : ID32, ¬ cf x x < 0) (hc : ∀ x y : ID32, Spec Tryz.prog g [.agg (iC x).toArray, .agg (iC y).toArray] [] [] (fun u D' M' => u = .int .i64 (cf x y) ∧ D' = [] ∧ M' = [])) {bs p q : Nat} {s : Int} (hp : p < len) (hq : q < len) (hs : 0 ≤ s ∧ s ≤ 1000) (hb : len ≤ 1000000) : Spec Tryz.prog 184 [.slice (some ⟨pb, po, none⟩) len cap, .int .i64 (p : Int), .int .i64 (q : Int), .pointer (some ⟨bs, 0, none⟩), fnV g []] [] [own 32 38 (some ⟨pb, po, none⟩) len cap ((xs).map iC), cl bs 3 [.int .i64 s]] (fun v D' M' => ∃ (p2 q2 : Nat) (s2 : Int), v = .tuple #[.int .i64 (p2 : Int), .int .i64 (q2 : Int)] ∧ ((p2 = p ∧ q2 = q) ∨ (p2 = q ∧ q2 = p)) ∧ (s ≤ s2 ∧ s2 ≤ s + 1) ∧ D' = [] ∧ M' = [own 32 38 (some ⟨pb, po, none⟩) len cap ((xs).map iC), cl bs 3 [.int .i64 s2]]) := by
 refine zC (n := 32) Tryz.func184 ?_
 intro σ D M
 refine xi qM (fun hl hcc => ?_)
 rw [List.length_map] at hl
 refine z6 (z8 (z9 rfl rfl (z9 rfl rfl (z7 (z4 (z6 (z6 ?_)))))))
 have hg0 : xs[p]? = some (gd xs (p)) := zJ jO
 have hw0 := zT (gd xs (p))
 have hg1 : xs[q]? = some (gd xs (q)) := zJ jO
 have hw1 := zT (gd xs (q))
 refine yC qk qk (z5 rfl rfl (z5 rfl rfl (z5 rfl rfl (zV (i := q) rfl zA zN rfl rfl jR qI ?_))))
 refine zp rfl zu rfl (yg qM (zU hg1) hw1) ?_
 refine z5 rfl rfl (z5 rfl rfl (zV (i := p) rfl zA zN rfl rfl jR qI ?_))
 refine zp rfl zu rfl (yg qM (zU hg0) hw0) ?_
 refine xv rfl rfl (ev2 rfl rfl) qD qS (hc (gd xs q) (gd xs p)) jF ?_
 refine zQ rfl rfl rfl (yA (z4 (zo rfl (fun h22 => ?_) (fun h22 => ?_))))
 ·try simp only [dq] at h22
  refine z6 (z8 (z5 rfl rfl (yi rfl rfl ?_)))
  refine zh rfl sc3 rfl qC ?_
  refine zH rfl rfl rfl jO ?_
  refine yi rfl rfl ?_
  refine yv sc3 rfl rfl rfl qU qE ?_
  exact z7 (z4 (z6 (z8 (z5 rfl rfl (z5 rfl rfl (z9 rfl rfl (z9 rfl rfl (z7 (z4 (zi (zD (xe rfl rfl rfl ⟨q, p, s + 1, rfl, .inr ⟨rfl, rfl⟩, by omega, rfl, rfl⟩ qD qF))))))))))))
 ·try simp only [dq] at h22
  exact zm (z4 (z6 (z8 (z5 rfl rfl (z5 rfl rfl (z9 rfl rfl (z9 rfl rfl (z7 (z4 (zi (xe rfl rfl rfl ⟨p, q, s, rfl, .inl ⟨rfl, rfl⟩, by omega, rfl, rfl⟩ qD qF)))))))))))
theorem med_spec {g pb po len cap : Nat} {cf : ID32 → ID32 → Int} {xs : List ID32} (hO : SWO cf) (hI : ∀ x : ID32, ¬ cf x x < 0) (hc : ∀ x y : ID32, Spec Tryz.prog g [.agg (iC x).toArray, .agg (iC y).toArray] [] [] (fun u D' M' => u = .int .i64 (cf x y) ∧ D' = [] ∧ M' = [])) {bs p q r : Nat} {s : Int} (hp : p < len) (hq : q < len) (hr : r < len) (hs : 0 ≤ s ∧ s ≤ 100) (hb : len ≤ 1000000) : Spec Tryz.prog 173 [.slice (some ⟨pb, po, none⟩) len cap, .int .i64 (p : Int), .int .i64 (q : Int), .int .i64 (r : Int), .pointer (some ⟨bs, 0, none⟩), fnV g []] [] [own 32 38 (some ⟨pb, po, none⟩) len cap ((xs).map iC), cl bs 3 [.int .i64 s]] (fun v D' M' => ∃ (x : Nat) (s2 : Int), v = .int .i64 (x : Int) ∧ (x = p ∨ x = q ∨ x = r) ∧ (s ≤ s2 ∧ s2 ≤ s + 3) ∧ D' = [] ∧ M' = [own 32 38 (some ⟨pb, po, none⟩) len cap ((xs).map iC), cl bs 3 [.int .i64 s2]]) := by
 refine zC (n := 41) Tryz.func173 ?_
 intro σ D M
 refine z6 (z8 (z9 rfl rfl (z7 (z4 (z6 (z8 (z5 rfl rfl (z5 rfl rfl (z5 rfl rfl (z5 rfl rfl (z5 rfl rfl (zx rfl (ev5 rfl rfl rfl rfl rfl) qD qS (ord2_spec hO hI hc (p := p) (q := q) (s := s) jO jO jO hb) ?_))))))))))))
 rintro _ _ _ ⟨p1, q1, s1, rfl, hpq1, hs1, rfl, rfl⟩
 refine zt qA qA ?_
 refine z5 rfl rfl (zG rfl rfl rfl (zG rfl rfl rfl (z9 rfl rfl (z9 rfl rfl (z7 (z4 (z6 (z8 (z5 rfl rfl (z5 rfl rfl (z5 rfl rfl (z5 rfl rfl (z5 rfl rfl (zx rfl (ev5 rfl rfl rfl rfl rfl) qD qS (ord2_spec hO hI hc (p := q1) (q := r) (s := s1) jO jO jO hb) ?_))))))))))))))
 rintro _ _ _ ⟨p2, q2, s2, rfl, hpq2, hs2, rfl, rfl⟩
 refine zt qA qA ?_
 refine z5 rfl rfl (zG rfl rfl rfl (zG rfl rfl rfl (z9 rfl rfl (z9 rfl rfl (z7 (z4 (z6 (z8 (z5 rfl rfl (z5 rfl rfl (z5 rfl rfl (z5 rfl rfl (z5 rfl rfl (zx rfl (ev5 rfl rfl rfl rfl rfl) qD qS (ord2_spec hO hI hc (p := p1) (q := p2) (s := s2) jO jO jO hb) ?_))))))))))))))
 rintro _ _ _ ⟨p3, q3, s3, rfl, hpq3, hs3, rfl, rfl⟩
 refine zt qA qA ?_
 exact z5 rfl rfl (zG rfl rfl rfl (zG rfl rfl rfl (z9 rfl rfl (z9 rfl rfl (z7 (z4 (z6 (z8 (z5 rfl rfl (z9 rfl rfl (z7 (z4 (zi (zz rfl rfl ⟨q3, s3, rfl, by omega, by omega, rfl, rfl⟩ qD qF))))))))))))))
theorem meda_spec {g pb po len cap : Nat} {cf : ID32 → ID32 → Int} {xs : List ID32} (hO : SWO cf) (hI : ∀ x : ID32, ¬ cf x x < 0) (hc : ∀ x y : ID32, Spec Tryz.prog g [.agg (iC x).toArray, .agg (iC y).toArray] [] [] (fun u D' M' => u = .int .i64 (cf x y) ∧ D' = [] ∧ M' = [])) {bs p : Nat} {s : Int} (hp : 1 ≤ p ∧ p + 1 < len) (hs : 0 ≤ s ∧ s ≤ 100) (hb : len ≤ 1000000) : Spec Tryz.prog 172 [.slice (some ⟨pb, po, none⟩) len cap, .int .i64 (p : Int), .pointer (some ⟨bs, 0, none⟩), fnV g []] [] [own 32 38 (some ⟨pb, po, none⟩) len cap ((xs).map iC), cl bs 3 [.int .i64 s]] (fun v D' M' => ∃ (x : Nat) (s2 : Int), v = .int .i64 (x : Int) ∧ (p ≤ x + 1 ∧ x ≤ p + 1) ∧ (s ≤ s2 ∧ s2 ≤ s + 3) ∧ D' = [] ∧ M' = [own 32 38 (some ⟨pb, po, none⟩) len cap ((xs).map iC), cl bs 3 [.int .i64 s2]]) := by
 refine zC (n := 18) Tryz.func172 ?_
 intro σ D M
 refine z6 (z8 (z9 rfl rfl (z7 (z4 (z6 (z8 (z5 rfl rfl (z5 rfl rfl (y7 rfl rfl rfl jO ?_)))))))))
 refine zv (t := 11) (u := .int .i64 ((p - 1 : Nat) : Int)) rfl (congrArg (Value.int .i64) jO) ?_
 refine z5 rfl rfl (z5 rfl rfl (zH rfl rfl rfl jO ?_))
 refine zv (t := 14) (u := .int .i64 ((p + 1 : Nat) : Int)) rfl rfl ?_
 refine z5 rfl rfl (z5 rfl rfl (zx rfl (ev6 rfl rfl rfl rfl rfl rfl) qD qS (med_spec hO hI hc (p := p - 1) (q := p) (r := p + 1) (s := s) jO jO jO hs hb) ?_))
 rintro _ _ _ ⟨mx, s2, rfl, hmx, hs2, rfl, rfl⟩
 refine zt qA qA ?_
 exact z9 rfl rfl (z7 (z4 (zi (zz rfl rfl ⟨mx, s2, rfl, by omega, hs2, rfl, rfl⟩ qD qF))))
theorem pivot_spec {g pb po len cap : Nat} {cf : ID32 → ID32 → Int} {xs : List ID32} (hO : SWO cf) (hI : ∀ x : ID32, ¬ cf x x < 0) (hc : ∀ x y : ID32, Spec Tryz.prog g [.agg (iC x).toArray, .agg (iC y).toArray] [] [] (fun u D' M' => u = .int .i64 (cf x y) ∧ D' = [] ∧ M' = [])) {ia ib : Nat} (h12 : ia + 12 < ib) (hib : ib ≤ len) (hb : len ≤ 1000000) : Spec Tryz.prog 148 [.slice (some ⟨pb, po, none⟩) len cap, .int .i64 (ia : Int), .int .i64 (ib : Int), fnV g []] [] [own 32 38 (some ⟨pb, po, none⟩) len cap ((xs).map iC)] (fun v D' M' => ∃ (p : Nat) (h : Int), v = .tuple #[.int .i64 (p : Int), .int .i64 h] ∧ (ia ≤ p ∧ p < ib) ∧ D' = [] ∧ M' = [own 32 38 (some ⟨pb, po, none⟩) len cap ((xs).map iC)]) := by
 refine zC (n := 63) Tryz.func148 ?_
 intro σ D M
 obtain ⟨ln, hL⟩ : ∃ ln, ln = ib - ia := ⟨_, rfl⟩
 refine z6 (z8 (z9 rfl rfl (z9 rfl rfl (z7 (z4 (z6 (z8 (z5 rfl rfl (z5 rfl rfl (y7 rfl rfl rfl jO ?_))))))))))
 refine zv (t := 17) (u := .int .i64 ((ln : Nat) : Int)) rfl (congrArg (Value.int .i64) jO) ?_
 refine z9 rfl rfl (z7 (z4 (z6 (z8 (zL rfl ze3 (fun b11 => ?_))))))
 refine z7 (z4 (z6 (z8 (z5 rfl rfl (z5 rfl rfl (L.quoN rfl rfl rfl qI ?_))))))
 refine L.mulN rfl rfl rfl jO ?_
 refine zH rfl rfl rfl jO ?_
 refine zv (t := 22) (u := .int .i64 ((ia + ln / 4 : Nat) : Int)) rfl (congrArg (Value.int .i64) jO) ?_
 refine z9 rfl rfl (z7 (z4 (z6 (z8 (z5 rfl rfl (z5 rfl rfl (L.quoN rfl rfl rfl qI ?_)))))))
 refine L.mulN rfl rfl rfl jO ?_
 refine zH rfl rfl rfl jO ?_
 refine zv (t := 27) (u := .int .i64 ((ia + ln / 4 * 2 : Nat) : Int)) rfl (congrArg (Value.int .i64) jO) ?_
 refine z9 rfl rfl (z7 (z4 (z6 (z8 (z5 rfl rfl (z5 rfl rfl (L.quoN rfl rfl rfl qI ?_)))))))
 refine L.mulN rfl rfl rfl jO ?_
 refine zH rfl rfl rfl jO ?_
 refine zv (t := 32) (u := .int .i64 ((ia + ln / 4 * 3 : Nat) : Int)) rfl (congrArg (Value.int .i64) jO) ?_
 refine z9 rfl rfl (z7 (z4 (z6 (z6 (z8 (z5 rfl rfl (x6 rfl rfl rfl (z7 (z4 (xk rfl (decide_eq_true jO) ?_))))))))))
 refine z6 (z6 (z8 (z5 rfl rfl (x6 rfl rfl rfl (z7 (z4 (yu (fun K' D' M' => ∃ (m1 m2 m3 : Nat) (s0 : Int), ((ia ≤ m1 ∧ m1 < ib) ∧ (ia ≤ m2 ∧ m2 < ib) ∧ (ia ≤ m3 ∧ m3 < ib) ∧ 0 ≤ s0 ∧ s0 ≤ 9) ∧ K' = [(12, .int .i64 (m1 : Int)), (13, .int .i64 (m2 : Int)), (14, .int .i64 (m3 : Int))] ∧ D' = [] ∧ M' = [own 32 38 (some ⟨pb, po, none⟩) len cap ((xs).map iC), cl b11 3 [.int .i64 s0]]) (M0 := [own 32 38 (some ⟨pb, po, none⟩) len cap ((xs).map iC), cl b11 3 [.int .i64 0]]) (.c 0 rfl <| .c 3 rfl <| .c 11 rfl <| za _) qS ?_ ?_)))))))
 ·skip
  refine zo rfl (fun h36 => ?_) (fun h36 => ?_)
  ·try simp only [dq] at h36
   refine z6 (z8 (z5 rfl rfl (z5 rfl rfl (z5 rfl rfl (zx rfl (ev4 rfl rfl rfl rfl) qD qS (meda_spec hO hI hc (bs := b11) (p := ia + ln / 4) (s := 0) jO jO hb) ?_)))))
   rintro _ _ _ ⟨m1, s1, rfl, hm1, hs1, rfl, rfl⟩
   refine zt qA qA ?_
   refine z9 rfl rfl (z7 (z4 (z6 (z8 (z5 rfl rfl (z5 rfl rfl (z5 rfl rfl (zx rfl (ev4 rfl rfl rfl rfl) qD qS (meda_spec hO hI hc (bs := b11) (p := ia + ln / 4 * 2) (s := s1) jO jO hb) ?_))))))))
   rintro _ _ _ ⟨m2, s2, rfl, hm2, hs2, rfl, rfl⟩
   refine zt qA qA ?_
   refine z9 rfl rfl (z7 (z4 (z8 (z5 rfl rfl (z5 rfl rfl (z5 rfl rfl (zx rfl (ev4 rfl rfl rfl rfl) qD qS (meda_spec hO hI hc (bs := b11) (p := ia + ln / 4 * 3) (s := s2) jO jO hb) ?_)))))))
   rintro _ _ _ ⟨m3, s3, rfl, hm3, hs3, rfl, rfl⟩
   refine zt qA qA ?_
   exact z9 rfl rfl (z7 (z4 (zK ⟨m1, m2, m3, s3, jO, rfl, rfl, rfl⟩ (.c 12 rfl <| .c 13 rfl <| .c 14 rfl <| za _) (.c 0 rfl <| .c 3 rfl <| .c 11 rfl <| za _) qD qD qF)))
  ·try simp only [dq] at h36
   exact zm (z4 (zK ⟨ia + ln / 4, ia + ln / 4 * 2, ia + ln / 4 * 3, 0, jO, rfl, rfl, rfl⟩ (.c 12 rfl <| .c 13 rfl <| .c 14 rfl <| za _) (.c 0 rfl <| .c 3 rfl <| .c 11 rfl <| za _) qD qD qF))
 rintro _ _ _ ⟨m1, m2, m3, s0, ⟨hm1, hm2, hm3, hs0⟩, rfl, rfl, rfl⟩
 refine zF qA qA qA ?_
 refine z4 (z8 (z5 rfl rfl (z5 rfl rfl (z5 rfl rfl (z5 rfl rfl (z5 rfl rfl (zx rfl (ev6 rfl rfl rfl rfl rfl rfl) qD qS (med_spec hO hI hc (bs := b11) (p := m1) (q := m2) (r := m3) (s := s0) jO jO jO jO hb) ?_)))))))
 rintro _ _ _ ⟨mx, s4, rfl, hmx, hs4, rfl, rfl⟩
 refine zt qA qA ?_
 refine z9 rfl rfl (z7 (z4 (z6 (z8 (zh rfl sc3 rfl qC ?_)))))
 refine z7 (z4 (zr (z6 (z8 (yj rfl rfl rfl (z9 rfl rfl (z7 (z4 (zo rfl (fun h57 => ?_) (fun h57 => ?_))))))))))
 ·try simp only [dq] at h57
  exact z6 (z8 (z5 rfl rfl (z9 rfl rfl (z9 rfl rfl (z7 (z4 (zi (y3 (xe rfl rfl rfl ⟨mx, _, rfl, by omega, rfl, rfl⟩ qD qF)))))))))
 ·try simp only [dq] at h57
  refine z6 (z8 (yj rfl rfl rfl (z9 rfl rfl (z7 (z4 (zo rfl (fun h60 => ?_) (fun h60 => ?_)))))))
  ·try simp only [dq] at h60
   exact z6 (z8 (z5 rfl rfl (z9 rfl rfl (z9 rfl rfl (z7 (z4 (zi (y3 (xe rfl rfl rfl ⟨mx, _, rfl, by omega, rfl, rfl⟩ qD qF)))))))))
  ·try simp only [dq] at h60
   exact z6 (z8 (z5 rfl rfl (z9 rfl rfl (z9 rfl rfl (z7 (z4 (zi (y3 (xe rfl rfl rfl ⟨mx, _, rfl, by omega, rfl, rfl⟩ qD qF)))))))))
theorem rev_spec {g pb po len cap : Nat} {cf : ID32 → ID32 → Int} {xs : List ID32} (hO : SWO cf) (hI : ∀ x : ID32, ¬ cf x x < 0) (hc : ∀ x y : ID32, Spec Tryz.prog g [.agg (iC x).toArray, .agg (iC y).toArray] [] [] (fun u D' M' => u = .int .i64 (cf x y) ∧ D' = [] ∧ M' = [])) {ia ib : Nat} (hab : ia < ib) (hib : ib ≤ len) (hb : len ≤ 1000000) : Spec Tryz.prog 149 [.slice (some ⟨pb, po, none⟩) len cap, .int .i64 (ia : Int), .int .i64 (ib : Int), fnV g []] [] [own 32 38 (some ⟨pb, po, none⟩) len cap ((xs).map iC)] (fun v D' M' => ∃ (ys : List ID32), v = .tuple #[] ∧ (PI ia ib xs ys) ∧ D' = [] ∧ M' = [own 32 38 (some ⟨pb, po, none⟩) len cap ((ys).map iC)]) := by
 refine zC (n := 34) Tryz.func149 ?_
 intro σ D M
 refine xi qM (fun hl hcc => ?_)
 rw [List.length_map] at hl
 refine z6 (z8 (z5 rfl rfl (z9 rfl rfl (z7 (z4 (z6 (z8 (z5 rfl rfl (y7 rfl rfl rfl jO ?_)))))))))
 refine zv (t := 12) (u := .int .i64 ((ib - 1 : Nat) : Int)) rfl (congrArg (Value.int .i64) jO) ?_
 refine z9 rfl rfl (z7 (z4 (zr (zX (fun K' D' M' μ => ∃ (i j : Nat) (zs : List ID32), ((ia ≤ i ∧ j < ib ∧ i ≤ j + 1) ∧ PI ia ib xs zs) ∧ K' = [(8, .int .i64 (i : Int)), (9, .int .i64 (j : Int))] ∧ D' = [] ∧ M' = [own 32 38 (some ⟨pb, po, none⟩) len cap ((zs).map iC)] ∧ μ = j + 1 - i) (.c 0 rfl <| za _) (⟨ia, ib - 1, xs, ⟨by omega, .refl _ _ _⟩, rfl, rfl, rfl, rfl⟩) (.c 8 rfl <| .c 9 rfl <| za _) qD qS ?_))))
 rintro K1 D1 M1 m1 ⟨i, j, zs, ⟨hr, hP⟩, rfl, rfl, rfl, rfl⟩
 refine zF qA qA qA ?_
 have hzl := hP.len
 refine z6 (z6 (z8 (z5 rfl rfl (z5 rfl rfl (zQ rfl rfl rfl (z7 (z4 (zo rfl (fun h15 => ?_) (fun h15 => ?_)))))))))
 ·try simp only [dq] at h15
  refine zm (z4 (zr (z6 ?_)))
  have hg0 : zs[i]? = some (gd zs (i)) := zJ jO
  have hw0 := zT (gd zs (i))
  have hg1 : zs[j]? = some (gd zs (j)) := zJ jO
  have hw1 := zT (gd zs (j))
  refine yt (clsL [1, 1, 1, 1, 1, 1, 1, 0, 1, 1, 1, 0, 1, 2, 1, 2]) qk ?_
  refine ze 0 rfl rfl (z5 rfl rfl (zd (ze 1 rfl rfl (z5 rfl rfl (zd (ze 2 rfl rfl (z5 rfl rfl (zd (ze 3 rfl rfl (z5 rfl rfl (zd (ze 4 rfl rfl (z5 rfl rfl (zd (ze 5 rfl rfl (z5 rfl rfl (zd (ze 6 rfl rfl (zV (i := j) rfl zA zN rfl rfl jR qI ?_)))))))))))))))))))
  refine zd (ze 8 rfl rfl (z5 rfl rfl (zd (ze 9 rfl rfl (z5 rfl rfl (zd (ze 10 rfl rfl (zV (i := i) rfl zA zN rfl rfl jR qI ?_))))))))
  refine zd (y8 (i := 7) rfl rfl rfl rfl qk qk qk qk rfl qD qF ?_)
  refine zp rfl zu rfl (yg qM (zU hg1) hw1) ?_
  refine zd (y8 (i := 11) rfl rfl rfl rfl qk qk qk qk rfl qD qF ?_)
  refine zp rfl zu rfl (yg qM (zU hg0) hw0) ?_
  refine zd (ze 12 rfl rfl (zV (i := i) rfl zA zN rfl rfl jR qI ?_))
  refine zd (zy 13 rfl (yS (i) zu rfl jR rfl qL qO qP qI ?_))
  refine zw rfl qD ?_
  refine ze 14 rfl rfl (zV (i := j) rfl zA zN rfl rfl jR qI ?_)
  refine zd (zy 15 rfl (yS (j) zu rfl jR rfl qL qO qP qI ?_))
  refine zw rfl qD ?_
  refine y6 qk ?_
  refine y4 _ ((sw zs (i) (j)).map iC) qP (by rw [sw, List.map_set, List.map_set]) ?_
  refine z4 (z6 (z8 (z5 rfl rfl (zH rfl rfl rfl jO ?_))))
  refine z9 rfl rfl (z7 (z4 (z8 (z5 rfl rfl (y7 rfl rfl rfl jO ?_)))))
  refine zv (t := 33) (u := .int .i64 ((j - 1 : Nat) : Int)) rfl (congrArg (Value.int .i64) jO) ?_
  exact z9 rfl rfl (z7 (zI (z4 (zM ⟨i + 1, j - 1, sw zs i j, ⟨by omega, hP.trans (.sw jO jO jO jO jO)⟩, rfl, rfl, rfl, rfl⟩ qI (.c 8 rfl <| .c 9 rfl <| za _) (.c 0 rfl <| za _) qD qD qF))))
 ·try simp only [dq] at h15
  exact zR (zq (zq (zS (yW (by simp) rfl ⟨zs, rfl, hP, rfl, rfl⟩ qD qF))))
theorem insw_spec {a : Option Addr} {g len cap : Nat} {cf : ID32 → ID32 → Int} {xs : List ID32} (hO : SWO cf) (hI : ∀ x : ID32, ¬ cf x x < 0) (hc : ∀ x y : ID32, Spec Tryz.prog g [.agg (iC x).toArray, .agg (iC y).toArray] [] [] (fun u D' M' => u = .int .i64 (cf x y) ∧ D' = [] ∧ M' = [])) {ia ib : Nat} (hab : ia ≤ ib) (hib : ib ≤ len) (hb : len ≤ 1000000) : Spec Tryz.prog 145 [.slice a len cap, .int .i64 (ia : Int), .int .i64 (ib : Int), fnV g []] [] [own 32 38 a len cap ((xs).map iC)] (fun v D' M' => ∃ (ys : List ID32), v = .tuple #[] ∧ (PI ia ib xs ys) ∧ (SrtP cf ys ia ib) ∧ D' = [] ∧ M' = [own 32 38 a len cap ((ys).map iC)]) := by
 refine zC (n := 53) Tryz.func145 ?_
 intro σ D M
 refine xi qM (fun hl hcc => ?_)
 rw [List.length_map] at hl
 refine z6 (z8 (z5 rfl rfl (zH rfl rfl rfl jO ?_)))
 refine z9 rfl rfl (z7 (z4 (zr (zX (fun K' D' M' μ => ∃ (i : Nat) (ys : List ID32), ((ia + 1 ≤ i ∧ (i ≤ ib ∨ i = ia + 1)) ∧ PI ia ib xs ys ∧ SrtP cf ys ia i) ∧ K' = [(8, .int .i64 (i : Int))] ∧ D' = [] ∧ M' = [own 32 38 a len cap ((ys).map iC)] ∧ μ = ib - i) (.c 0 rfl <| .c 1 rfl <| .c 2 rfl <| .c 3 rfl <| za _) (⟨ia + 1, xs, ⟨by omega, .refl _ _ _, .one⟩, rfl, rfl, rfl, rfl⟩) (.c 8 rfl <| za _) qD qS ?_))))
 rintro K1 D1 M1 m1 ⟨i, ys, ⟨hi, hP, hS⟩, rfl, rfl, rfl, rfl⟩
 refine zF qA qA qA ?_
 have hyl := hP.len
 refine z6 (z6 (z8 (z5 rfl rfl (z5 rfl rfl (zQ rfl rfl rfl (z7 (z4 (zo rfl (fun h14 => ?_) (fun h14 => ?_)))))))))
 ·try simp only [dq] at h14
  refine T.ownNe qM jO (fun pb po ha => ?_)
  subst ha
  refine zm (z4 (z6 (zr (z6 (z8 (z5 rfl rfl (z9 rfl rfl (z7 (z4 (zr (zX (fun K' D' M' μ => ∃ (j : Nat) (zs : List ID32), ((ia ≤ j ∧ j ≤ i) ∧ PI ia ib xs zs ∧ InB cf zs ia i j) ∧ K' = [(9, .int .i64 (j : Int))] ∧ D' = [] ∧ M' = [own 32 38 (some ⟨pb, po, none⟩) len cap ((zs).map iC)] ∧ μ = 2 * j) (.c 0 rfl <| .c 1 rfl <| .c 2 rfl <| .c 3 rfl <| .c 8 rfl <| za _) (⟨i, ys, ⟨by omega, hP, hS.start⟩, rfl, rfl, rfl, rfl⟩) (.c 9 rfl <| za _) qD qS ?_)))))))))))
  rintro K1 D1 M1 m1 ⟨j, zs, ⟨hj, hP2, hB⟩, rfl, rfl, rfl, rfl⟩
  refine zF qA qA qA ?_
  have hzl := hP2.len
  refine z6 (z6 ?_)
  rcases Nat.lt_or_ge ia j with hij | hij
  ·skip
   have hg0 : zs[j]? = some (gd zs (j)) := zJ jO
   have hw0 := zT (gd zs (j))
   have hg1 : zs[j - 1]? = some (gd zs (j - 1)) := zJ jO
   have hw1 := zT (gd zs (j - 1))
   refine yC qk qk (z5 rfl rfl (z5 rfl rfl (yB rfl rfl rfl (z5 rfl rfl (zv (t := 21) rfl (show _ = Value.bool true from congrArg Value.bool (decide_eq_true jO)) ?_)))))
   refine zf (dj := 21) rfl rfl rfl (z5 rfl rfl (zf (dj := 21) rfl rfl rfl (z5 rfl rfl (zf (dj := 21) rfl rfl rfl (z5 rfl rfl (zf (dj := 21) rfl rfl rfl (zV (i := j) rfl zA zN rfl rfl jR qI ?_)))))))
   refine zf (dj := 21) rfl rfl rfl (zp rfl zu rfl (yg qM (zU hg0) hw0) ?_)
   refine zf (dj := 21) rfl rfl rfl (z5 rfl rfl (zf (dj := 21) rfl rfl rfl (z5 rfl rfl (zf (dj := 21) rfl rfl rfl (y7 rfl rfl rfl jO ?_)))))
   refine zv (t := 29) (u := .int .i64 ((j - 1 : Nat) : Int)) rfl (congrArg (Value.int .i64) jO) ?_
   refine zf (dj := 21) rfl rfl rfl (zV (i := j - 1) rfl zA zN rfl rfl jR qI ?_)
   refine zf (dj := 21) rfl rfl rfl (zp rfl zu rfl (yg qM (zU hg1) hw1) ?_)
   refine zf (dj := 21) rfl rfl rfl (xv rfl rfl (ev2 rfl rfl) qD qS (hc (gd zs j) (gd zs (j - 1))) jF ?_)
   refine zf (dj := 21) rfl rfl rfl (zQ rfl rfl rfl (ye rfl rfl rfl (yA (z4 (zo rfl (fun h34 => ?_) (fun h34 => ?_))))))
   ·try simp only [dq] at h34
    refine zm (z4 (z6 (zr ?_)))
    have hg0 : zs[j]? = some (gd zs (j)) := zJ jO
    have hw0 := zT (gd zs (j))
    have hg1 : zs[j - 1]? = some (gd zs (j - 1)) := zJ jO
    have hw1 := zT (gd zs (j - 1))
    refine yt (clsL [1, 1, 1, 1, 1, 1, 1, 1, 1, 0, 1, 1, 1, 0, 1, 2, 1, 2]) qk ?_
    refine ze 0 rfl rfl (z5 rfl rfl (zd (ze 1 rfl rfl (z5 rfl rfl (zd (ze 2 rfl rfl (z5 rfl rfl (zd (ze 3 rfl rfl (z5 rfl rfl (zd (ze 4 rfl rfl (y7 rfl rfl rfl jO ?_)))))))))))))
    refine zv (t := 41) (u := .int .i64 ((j - 1 : Nat) : Int)) rfl (congrArg (Value.int .i64) jO) ?_
    refine zd (ze 5 rfl rfl (z5 rfl rfl (zd (ze 6 rfl rfl (z5 rfl rfl (zd (ze 7 rfl rfl (y7 rfl rfl rfl jO ?_))))))))
    refine zv (t := 44) (u := .int .i64 ((j - 1 : Nat) : Int)) rfl (congrArg (Value.int .i64) jO) ?_
    refine zd (ze 8 rfl rfl (zV (i := j - 1) rfl zA zN rfl rfl jR qI ?_))
    refine zd (ze 10 rfl rfl (z5 rfl rfl (zd (ze 11 rfl rfl (z5 rfl rfl (zd (ze 12 rfl rfl (zV (i := j) rfl zA zN rfl rfl jR qI ?_))))))))
    refine zd (y8 (i := 9) rfl rfl rfl rfl qk qk qk qk rfl qD qF ?_)
    refine zp rfl zu rfl (yg qM (zU hg1) hw1) ?_
    refine zd (y8 (i := 13) rfl rfl rfl rfl qk qk qk qk rfl qD qF ?_)
    refine zp rfl zu rfl (yg qM (zU hg0) hw0) ?_
    refine zd (ze 14 rfl rfl (zV (i := j) rfl zA zN rfl rfl jR qI ?_))
    refine zd (zy 15 rfl (yS (j) zu rfl jR rfl qL qO qP qI ?_))
    refine zw rfl qD ?_
    refine ze 16 rfl rfl (zV (i := j - 1) rfl zA zN rfl rfl jR qI ?_)
    refine zd (zy 17 rfl (yS (j - 1) zu rfl jR rfl qL qO qP qI ?_))
    refine zw rfl qD ?_
    refine y6 qk ?_
    refine y4 _ ((sw zs (j) (j - 1)).map iC) qP (by rw [sw, List.map_set, List.map_set]) ?_
    refine zI (z4 (z8 (z5 rfl rfl (y7 rfl rfl rfl jO ?_))))
    refine zv (t := 36) (u := .int .i64 ((j - 1 : Nat) : Int)) rfl (congrArg (Value.int .i64) jO) ?_
    exact z9 rfl rfl (z7 (z4 (zM ⟨j - 1, sw zs j (j - 1), ⟨by omega, hP2.trans (.sw jO jO jO jO jO), hB.swap hO jO jO jO h34⟩, rfl, rfl, rfl, rfl⟩ qI (.c 9 rfl <| za _) (.c 0 rfl <| .c 1 rfl <| .c 2 rfl <| .c 3 rfl <| .c 8 rfl <| za _) qD qD qF)))
   ·try simp only [dq] at h34
    have hend := hB.stop hO jO jO (fun _ => h34)
    refine zR (zq (zq (zS (zI (z4 (z8 (z5 rfl rfl (zH rfl rfl rfl jO ?_))))))))
    exact z9 rfl rfl (z7 (z4 (zM ⟨i + 1, _, ⟨by omega, hP2, hend⟩, rfl, rfl, rfl, rfl⟩ qI (.c 8 rfl <| za _) (.c 0 rfl <| .c 1 rfl <| .c 2 rfl <| .c 3 rfl <| za _) qD qD qF)))
  ·skip
   have hend := hB.stop hO jO jO (fun e => absurd e jO)
   refine yC qk qk (z5 rfl rfl (z5 rfl rfl (yB rfl rfl rfl (z5 rfl rfl (zv (t := 21) rfl (show _ = Value.bool false from congrArg Value.bool (decide_eq_false jO)) ?_)))))
   refine zg (dj := 21) (c := false) rfl rfl rfl rfl rfl jD (zg (dj := 21) (c := false) rfl rfl rfl rfl rfl jD (zg (dj := 21) (c := false) rfl rfl rfl rfl rfl jD (zg (dj := 21) (c := false) rfl rfl rfl rfl rfl jD (zg (dj := 21) (c := false) rfl rfl rfl rfl rfl jD (zg (dj := 21) (c := false) rfl rfl rfl rfl rfl jD (zg (dj := 21) (c := false) rfl rfl rfl rfl rfl jD (zg (dj := 21) (c := false) rfl rfl rfl rfl rfl jD (zg (dj := 21) (c := false) rfl rfl rfl rfl rfl jD (zg (dj := 21) (c := false) rfl rfl rfl rfl rfl jD (zg (dj := 21) (c := false) rfl rfl rfl rfl rfl jD (zg (dj := 21) (c := false) rfl rfl rfl rfl rfl jD (y5 rfl rfl rfl (yA (z4 (ym rfl rfl ?_)))))))))))))))
   refine zR (zq (zq (zS (zI (z4 (z8 (z5 rfl rfl (zH rfl rfl rfl jO ?_))))))))
   exact z9 rfl rfl (z7 (z4 (zM ⟨i + 1, _, ⟨by omega, hP2, hend⟩, rfl, rfl, rfl, rfl⟩ qI (.c 8 rfl <| za _) (.c 0 rfl <| .c 1 rfl <| .c 2 rfl <| .c 3 rfl <| za _) qD qD qF)))
 ·try simp only [dq] at h14
  exact zR (zq (zq (zS (yW (by simp) rfl ⟨ys, rfl, hP, fun p q h1 h2 h3 => hS p q h1 h2 jO, rfl, rfl⟩ qD qF))))
theorem sift_spec {g pb po len cap : Nat} {cf : ID32 → ID32 → Int} {xs : List ID32} (hO : SWO cf) (hI : ∀ x : ID32, ¬ cf x x < 0) (hc : ∀ x y : ID32, Spec Tryz.prog g [.agg (iC x).toArray, .agg (iC y).toArray] [] [] (fun u D' M' => u = .int .i64 (cf x y) ∧ D' = [] ∧ M' = [])) {lo hi f : Nat} (hH : Heap cf xs f (lo + 1) hi) (hfl : f + hi ≤ len) (hb : len ≤ 1000000) (hlo : lo ≤ len) : Spec Tryz.prog 169 [.slice (some ⟨pb, po, none⟩) len cap, .int .i64 (lo : Int), .int .i64 (hi : Int), .int .i64 (f : Int), fnV g []] [] [own 32 38 (some ⟨pb, po, none⟩) len cap ((xs).map iC)] (fun v D' M' => ∃ (ys : List ID32), v = .tuple #[] ∧ (PI (f + lo) (f + hi) xs ys) ∧ (Heap cf ys f lo hi) ∧ D' = [] ∧ M' = [own 32 38 (some ⟨pb, po, none⟩) len cap ((ys).map iC)]) := by
 refine zC (n := 82) Tryz.func169 ?_
 intro σ D M
 refine xi qM (fun hl hcc => ?_)
 rw [List.length_map] at hl
 refine z6 (z8 (z5 rfl rfl (z9 rfl rfl (z7 (z4 (zr (zX (fun K' D' M' μ => ∃ (r : Nat) (zs : List ID32), ((lo ≤ r ∧ (r < hi ∨ r = lo)) ∧ PI (f + lo) (f + hi) xs zs ∧ HeapB cf zs f lo hi r) ∧ K' = [(10, .int .i64 (r : Int))] ∧ D' = [] ∧ M' = [own 32 38 (some ⟨pb, po, none⟩) len cap ((zs).map iC)] ∧ μ = hi - r) (.c 0 rfl <| .c 2 rfl <| .c 3 rfl <| .c 4 rfl <| za _) (⟨lo, xs, ⟨by omega, .refl _ _ _, hH.start⟩, rfl, rfl, rfl, rfl⟩) (.c 10 rfl <| za _) qD qS ?_)))))))
 rintro K1 D1 M1 m1 ⟨r, zs, ⟨hr, hP, hB⟩, rfl, rfl, rfl, rfl⟩
 refine zF qA qA qA ?_
 have hzl := hP.len
 refine zr (z6 (z8 (z5 rfl rfl (L.mulN rfl rfl rfl jO ?_))))
 refine zH rfl rfl rfl jO ?_
 refine zv (t := 15) (u := .int .i64 ((2 * r + 1 : Nat) : Int)) rfl (congrArg (Value.int .i64) jO) ?_
 refine z9 rfl rfl (z7 (z4 (z6 (z6 (z8 (z5 rfl rfl (z5 rfl rfl (x6 rfl rfl rfl (z7 (z4 (zo rfl (fun h18 => ?_) (fun h18 => ?_))))))))))))
 ·try simp only [dq] at h18
  have hend := hB.leaf jO
  refine zR (zq (T.blkY rfl ?_))
  exact zq (zS (yW (by simp) rfl ⟨zs, rfl, hP, hend, rfl, rfl⟩ qD qF))
 ·try simp only [dq] at h18
  refine zm (z4 (z6 (z6 (yu (fun K' D' M' => ∃ (w : Bool), ((w = true → 2 * r + 1 + 1 < hi ∧ cf (gd zs (f + (2 * r + 1))) (gd zs (f + (2 * r + 1) + 1)) < 0) ∧ (w = false → 2 * r + 1 + 1 < hi → ¬ cf (gd zs (f + (2 * r + 1))) (gd zs (f + (2 * r + 1) + 1)) < 0)) ∧ K' = [(40, .bool w)] ∧ D' = [] ∧ M' = [own 32 38 (some ⟨pb, po, none⟩) len cap ((zs).map iC)]) (M0 := [own 32 38 (some ⟨pb, po, none⟩) len cap ((zs).map iC)]) (.c 0 rfl <| .c 2 rfl <| .c 3 rfl <| .c 4 rfl <| .c 10 rfl <| .c 11 rfl <| za _) qS ?_ ?_))))
  ·skip
   rcases Nat.lt_or_ge (2 * r + 1 + 1) hi with hch | hch
   ·skip
    have hg0 : zs[f + (2 * r + 1)]? = some (gd zs (f + (2 * r + 1))) := zJ jO
    have hw0 := zT (gd zs (f + (2 * r + 1)))
    have hg1 : zs[f + (2 * r + 1) + 1]? = some (gd zs (f + (2 * r + 1) + 1)) := zJ jO
    have hw1 := zT (gd zs (f + (2 * r + 1) + 1))
    refine yC qk qk (z5 rfl rfl (zH rfl rfl rfl jO ?_))
    refine z5 rfl rfl (zQ rfl rfl rfl (z5 rfl rfl (zv (t := 23) rfl (show _ = Value.bool true from congrArg Value.bool (decide_eq_true jO)) ?_)))
    refine zf (dj := 23) rfl rfl rfl (z5 rfl rfl (zf (dj := 23) rfl rfl rfl (z5 rfl rfl (zf (dj := 23) rfl rfl rfl (z5 rfl rfl (zf (dj := 23) rfl rfl rfl (z5 rfl rfl (zf (dj := 23) rfl rfl rfl (zH rfl rfl rfl jO ?_)))))))))
    refine zf (dj := 23) rfl rfl rfl (zV (i := f + (2 * r + 1)) rfl zA zN rfl rfl jR qI ?_)
    refine zf (dj := 23) rfl rfl rfl (zp rfl zu rfl (yg qM (zU hg0) hw0) ?_)
    refine zf (dj := 23) rfl rfl rfl (z5 rfl rfl (zf (dj := 23) rfl rfl rfl (z5 rfl rfl (zf (dj := 23) rfl rfl rfl (z5 rfl rfl (zf (dj := 23) rfl rfl rfl (zH rfl rfl rfl jO ?_)))))))
    refine zf (dj := 23) rfl rfl rfl (zH rfl rfl rfl jO ?_)
    refine zf (dj := 23) rfl rfl rfl (zV (i := f + (2 * r + 1) + 1) rfl zA zN rfl rfl jR qI ?_)
    refine zf (dj := 23) rfl rfl rfl (zp rfl zu rfl (yg qM (zU hg1) hw1) ?_)
    refine zf (dj := 23) rfl rfl rfl (xv rfl rfl (ev2 rfl rfl) qD qS (hc (gd zs (f + (2 * r + 1))) (gd zs (f + (2 * r + 1) + 1))) jF ?_)
    exact zf (dj := 23) rfl rfl rfl (zQ rfl rfl rfl (ye rfl rfl rfl (yA (z4 (zK ⟨_, ⟨fun e => ⟨hch, of_decide_eq_true e⟩, fun e _ => of_decide_eq_false e⟩, rfl, rfl, rfl⟩ (.c 40 rfl <| za _) (.c 0 rfl <| .c 2 rfl <| .c 3 rfl <| .c 4 rfl <| .c 10 rfl <| .c 11 rfl <| za _) qD qD qF)))))
   ·skip
    refine yC qk qk (z5 rfl rfl (zH rfl rfl rfl jO ?_))
    refine z5 rfl rfl (zQ rfl rfl rfl (z5 rfl rfl (zv (t := 23) rfl (show _ = Value.bool false from congrArg Value.bool (decide_eq_false jO)) ?_)))
    exact zg (dj := 23) (c := false) rfl rfl rfl rfl rfl jD (zg (dj := 23) (c := false) rfl rfl rfl rfl rfl jD (zg (dj := 23) (c := false) rfl rfl rfl rfl rfl jD (zg (dj := 23) (c := false) rfl rfl rfl rfl rfl jD (zg (dj := 23) (c := false) rfl rfl rfl rfl rfl jD (zg (dj := 23) (c := false) rfl rfl rfl rfl rfl jD (zg (dj := 23) (c := false) rfl rfl rfl rfl rfl jD (zg (dj := 23) (c := false) rfl rfl rfl rfl rfl jD (zg (dj := 23) (c := false) rfl rfl rfl rfl rfl jD (zg (dj := 23) (c := false) rfl rfl rfl rfl rfl jD (zg (dj := 23) (c := false) rfl rfl rfl rfl rfl jD (zg (dj := 23) (c := false) rfl rfl rfl rfl rfl jD (zg (dj := 23) (c := false) rfl rfl rfl rfl rfl jD (zg (dj := 23) (c := false) rfl rfl rfl rfl rfl jD (zg (dj := 23) (c := false) rfl rfl rfl rfl rfl jD (zg (dj := 23) (c := false) rfl rfl rfl rfl rfl jD (y5 rfl rfl rfl (yA (z4 (zK ⟨_, ⟨fun e => (by cases e), fun _ e => absurd e jO⟩, rfl, rfl, rfl⟩ (.c 40 rfl <| za _) (.c 0 rfl <| .c 2 rfl <| .c 3 rfl <| .c 4 rfl <| .c 10 rfl <| .c 11 rfl <| za _) qD qD qF)))))))))))))))))))
  rintro _ _ _ ⟨w, ⟨hw1, hw2⟩, rfl, rfl, rfl⟩
  refine zF qA qA qA ?_
  refine z4 (yu (fun K' D' M' => ∃ (m : Nat), ((m = 2 * r + 1 ∨ m = 2 * r + 2) ∧ m < hi ∧ ∀ o, (o = 2 * r + 1 ∨ o = 2 * r + 2) → o < hi → ¬ cf (gd zs (f + m)) (gd zs (f + o)) < 0) ∧ K' = [(11, .int .i64 (m : Int))] ∧ D' = [] ∧ M' = []) (M0 := []) (.c 0 rfl <| .c 2 rfl <| .c 3 rfl <| .c 4 rfl <| .c 10 rfl <| za _) qS ?_ ?_)
  ·skip
   refine zo rfl (fun h40 => ?_) (fun h40 => ?_)
   ·try simp only [dq] at h40
    refine z8 (z5 rfl rfl (zH rfl rfl rfl jO ?_))
    refine zv (t := 42) (u := .int .i64 ((2 * r + 1 + 1 : Nat) : Int)) rfl (congrArg (Value.int .i64) jO) ?_
    exact z9 rfl rfl (z7 (z4 (zK ⟨2 * r + 1 + 1, ⟨.inr rfl, (hw1 h40).1, fun o ho hoh => (by rcases ho with rfl | rfl <;> first | exact hO.asym _ _ (hw1 h40).2 | exact hI _)⟩, rfl, rfl, rfl⟩ (.c 11 rfl <| za _) (.c 0 rfl <| .c 2 rfl <| .c 3 rfl <| .c 4 rfl <| .c 10 rfl <| za _) qD qD qF)))
   ·try simp only [dq] at h40
    exact zm (z4 (zK ⟨2 * r + 1, ⟨.inl rfl, jO, fun o ho hoh => (by rcases ho with rfl | rfl <;> first | exact hI _ | exact hw2 h40 jO)⟩, rfl, rfl, rfl⟩ (.c 11 rfl <| za _) (.c 0 rfl <| .c 2 rfl <| .c 3 rfl <| .c 4 rfl <| .c 10 rfl <| za _) qD qD qF))
  rintro _ _ _ ⟨m, ⟨hm1, hm2, hm3⟩, rfl, rfl, rfl⟩
  refine zF qA qA qA ?_
  refine z4 (z6 (z6 ?_))
  have hg0 : zs[f + r]? = some (gd zs (f + r)) := zJ jO
  have hw0 := zT (gd zs (f + r))
  have hg1 : zs[f + m]? = some (gd zs (f + m)) := zJ jO
  have hw1 := zT (gd zs (f + m))
  refine yC qk qk (z5 rfl rfl (z5 rfl rfl (z5 rfl rfl (z5 rfl rfl (zH rfl rfl rfl jO ?_)))))
  refine zV (i := f + r) rfl zA zN rfl rfl jR qI ?_
  refine zp rfl zu rfl (yg qM (zU hg0) hw0) ?_
  refine z5 rfl rfl (z5 rfl rfl (z5 rfl rfl (zH rfl rfl rfl jO ?_)))
  refine zV (i := f + m) rfl zA zN rfl rfl jR qI ?_
  refine zp rfl zu rfl (yg qM (zU hg1) hw1) ?_
  refine xv rfl rfl (ev2 rfl rfl) qD qS (hc (gd zs (f + r)) (gd zs (f + m))) jF ?_
  refine zQ rfl rfl rfl (yX rfl rfl (yA (z4 (zo rfl (fun h58 => ?_) (fun h58 => ?_)))))
  ·try simp only [dq] at h58
   have hend := hB.stop hO hm3 h58
   exact zi (zD (y3 (zD (y3 (yW (by simp) rfl ⟨zs, rfl, hP, hend, rfl, rfl⟩ qD qF)))))
  ·try simp only [dq] at h58
   refine zm (z4 (z6 ?_))
   have hg0 : zs[f + r]? = some (gd zs (f + r)) := zJ jO
   have hw0 := zT (gd zs (f + r))
   have hg1 : zs[f + m]? = some (gd zs (f + m)) := zJ jO
   have hw1 := zT (gd zs (f + m))
   refine yt (clsL [1, 1, 1, 1, 1, 1, 1, 1, 1, 1, 1, 1, 1, 0, 1, 1, 1, 1, 1, 0, 1, 2, 1, 2]) qk ?_
   refine ze 0 rfl rfl (z5 rfl rfl (zd (ze 1 rfl rfl (z5 rfl rfl (zd (ze 2 rfl rfl (z5 rfl rfl (zd (ze 3 rfl rfl (zH rfl rfl rfl jO ?_))))))))))
   refine zd (ze 4 rfl rfl (z5 rfl rfl (zd (ze 5 rfl rfl (z5 rfl rfl (zd (ze 6 rfl rfl (z5 rfl rfl (zd (ze 7 rfl rfl (zH rfl rfl rfl jO ?_)))))))))))
   refine zd (ze 8 rfl rfl (z5 rfl rfl (zd (ze 9 rfl rfl (z5 rfl rfl (zd (ze 10 rfl rfl (z5 rfl rfl (zd (ze 11 rfl rfl (zH rfl rfl rfl jO ?_)))))))))))
   refine zd (ze 12 rfl rfl (zV (i := f + m) rfl zA zN rfl rfl jR qI ?_))
   refine zd (ze 14 rfl rfl (z5 rfl rfl (zd (ze 15 rfl rfl (z5 rfl rfl (zd (ze 16 rfl rfl (z5 rfl rfl (zd (ze 17 rfl rfl (zH rfl rfl rfl jO ?_)))))))))))
   refine zd (ze 18 rfl rfl (zV (i := f + r) rfl zA zN rfl rfl jR qI ?_))
   refine zd (y8 (i := 13) rfl rfl rfl rfl qk qk qk qk rfl qD qF ?_)
   refine zp rfl zu rfl (yg qM (zU hg1) hw1) ?_
   refine zd (y8 (i := 19) rfl rfl rfl rfl qk qk qk qk rfl qD qF ?_)
   refine zp rfl zu rfl (yg qM (zU hg0) hw0) ?_
   refine zd (ze 20 rfl rfl (zV (i := f + r) rfl zA zN rfl rfl jR qI ?_))
   refine zd (zy 21 rfl (yS (f + r) zu rfl jR rfl qL qO qP qI ?_))
   refine zw rfl qD ?_
   refine ze 22 rfl rfl (zV (i := f + m) rfl zA zN rfl rfl jR qI ?_)
   refine zd (zy 23 rfl (yS (f + m) zu rfl jR rfl qL qO qP qI ?_))
   refine zw rfl qD ?_
   refine y6 qk ?_
   refine y4 _ ((sw zs (f + r) (f + m)).map iC) qP (by rw [sw, List.map_set, List.map_set]) ?_
   exact z4 (z8 (z5 rfl rfl (z9 rfl rfl (z7 (zI (z4 (zM ⟨m, sw zs (f + r) (f + m), ⟨by omega, hP.trans (.sw jO jO jO jO jO), hB.swap hO jO jO hm1 hm2 hm3 h58⟩, rfl, rfl, rfl, rfl⟩ qI (.c 10 rfl <| za _) (.c 0 rfl <| .c 2 rfl <| .c 3 rfl <| .c 4 rfl <| za _) qD qD qF)))))))
theorem heap_spec {g pb po len cap : Nat} {cf : ID32 → ID32 → Int} {xs : List ID32} (hO : SWO cf) (hI : ∀ x : ID32, ¬ cf x x < 0) (hc : ∀ x y : ID32, Spec Tryz.prog g [.agg (iC x).toArray, .agg (iC y).toArray] [] [] (fun u D' M' => u = .int .i64 (cf x y) ∧ D' = [] ∧ M' = [])) {ia ib : Nat} (hab : ia < ib) (hib : ib ≤ len) (hb : len ≤ 1000000) : Spec Tryz.prog 146 [.slice (some ⟨pb, po, none⟩) len cap, .int .i64 (ia : Int), .int .i64 (ib : Int), fnV g []] [] [own 32 38 (some ⟨pb, po, none⟩) len cap ((xs).map iC)] (fun v D' M' => ∃ (ys : List ID32), v = .tuple #[] ∧ (PI ia ib xs ys) ∧ (SrtP cf ys ia ib) ∧ D' = [] ∧ M' = [own 32 38 (some ⟨pb, po, none⟩) len cap ((ys).map iC)]) := by
 refine zC (n := 60) Tryz.func146 ?_
 intro σ D M
 refine xi qM (fun hl hcc => ?_)
 rw [List.length_map] at hl
 obtain ⟨n, hn⟩ : ∃ n, n = ib - ia := ⟨_, rfl⟩
 refine z6 (z8 (z5 rfl rfl (z9 rfl rfl (z7 (z4 (z6 (z8 (z9 rfl rfl (z7 (z4 (z6 (z8 (z5 rfl rfl (z5 rfl rfl (y7 rfl rfl rfl jO ?_)))))))))))))))
 refine zv (t := 16) (u := .int .i64 ((n : Nat) : Int)) rfl (congrArg (Value.int .i64) jO) ?_
 refine z9 rfl rfl (z7 (z4 (z6 (z6 (z8 (z5 rfl rfl (y7 rfl rfl rfl jO ?_)))))))
 refine L.quoN rfl rfl rfl qI ?_
 refine zv (t := 19) (u := .int .i64 ((((n - 1) / 2 + 1 : Nat) : Int) - 1)) rfl (congrArg (Value.int .i64) jO) ?_
 refine z9 rfl rfl (z7 (z4 (zr (zX (fun K' D' M' μ => ∃ (k1 : Nat) (zs : List ID32), (k1 ≤ n ∧ PI ia ib xs zs ∧ Heap cf zs ia k1 n) ∧ K' = [(11, .int .i64 ((k1 : Int) - 1))] ∧ D' = [] ∧ M' = [own 32 38 (some ⟨pb, po, none⟩) len cap ((zs).map iC)] ∧ μ = 2 * k1) (.c 0 rfl <| .c 3 rfl <| .c 8 rfl <| .c 9 rfl <| .c 10 rfl <| za _) (⟨(n - 1) / 2 + 1, xs, ⟨by omega, .refl _ _ _, .last jO⟩, rfl, rfl, rfl, rfl⟩) (.c 11 rfl <| za _) qD qS ?_))))
 rintro K1 D1 M1 m1 ⟨k1, zs, ⟨hk, hP, hH⟩, rfl, rfl, rfl, rfl⟩
 refine zF qA qA qA ?_
 have hzl := hP.len
 refine z6 (z6 (z8 (z5 rfl rfl (x6 rfl rfl rfl (z7 (z4 (zo rfl (fun h21 => ?_) (fun h21 => ?_))))))))
 ·try simp only [dq] at h21
  obtain ⟨k, rfl⟩ : ∃ k, k1 = k + 1 := ⟨k1 - 1, by omega⟩
  refine zm (z4 (z6 (zr (z8 (z5 rfl rfl (z5 rfl rfl (zv (t := 25) (u := .int .i64 ((k : Nat) : Int)) rfl (congrArg (Value.int .i64) jO) ?_)))))))
  refine z5 rfl rfl (z5 rfl rfl (z5 rfl rfl (zx rfl (ev5 rfl rfl rfl rfl rfl) qD qS (sift_spec hO hI hc (lo := k) (hi := n) (f := ia) hH jO hb jO) ?_)))
  rintro _ _ _ ⟨ys, rfl, hP1, hH1, rfl, rfl⟩
  refine zt qA qA ?_
  refine z7 (zI (z4 (z8 (z5 rfl rfl (y7 rfl rfl rfl jO ?_)))))
  refine zv (t := 23) (u := .int .i64 ((k : Int) - 1)) rfl (congrArg (Value.int .i64) jO) ?_
  exact z9 rfl rfl (z7 (z4 (zM ⟨k, ys, ⟨by omega, hP.trans (hP1.wide jO jO), hH1⟩, rfl, rfl, rfl, rfl⟩ qI (.c 11 rfl <| za _) (.c 0 rfl <| .c 3 rfl <| .c 8 rfl <| .c 9 rfl <| .c 10 rfl <| za _) qD qD qF)))
 ·try simp only [dq] at h21
  obtain rfl : k1 = 0 := by omega
  refine zR (zq (zq (zS (z4 (z6 (z8 (z5 rfl rfl (y7 rfl rfl rfl jO ?_))))))))
  refine z9 rfl rfl (z7 (z4 (zr (zX (fun K' D' M' μ => ∃ (k1 : Nat) (zs : List ID32), (k1 ≤ n ∧ PI ia ib xs zs ∧ Heap cf zs ia 0 k1 ∧ Tail cf zs ia k1 n) ∧ K' = [(12, .int .i64 ((k1 : Int) - 1))] ∧ D' = [] ∧ M' = [own 32 38 (some ⟨pb, po, none⟩) len cap ((zs).map iC)] ∧ μ = 2 * k1) (.c 0 rfl <| .c 3 rfl <| .c 8 rfl <| .c 9 rfl <| za _) (⟨n, zs, ⟨by omega, hP, hH, fun p q h1 h2 h3 => absurd h3 jO⟩, rfl, rfl, rfl, rfl⟩) (.c 12 rfl <| za _) qD qS ?_))))
  rintro K1 D1 M1 m1 ⟨k1, zs, ⟨hk, hP, hH, hT⟩, rfl, rfl, rfl, rfl⟩
  refine zF qA qA qA ?_
  have hzl := hP.len
  refine z6 (z6 (z8 (z5 rfl rfl (x6 rfl rfl rfl (z7 (z4 (zo rfl (fun h33 => ?_) (fun h33 => ?_))))))))
  ·try simp only [dq] at h33
   obtain ⟨k, rfl⟩ : ∃ k, k1 = k + 1 := ⟨k1 - 1, by omega⟩
   refine zm (z4 (z6 (zr (z6 ?_))))
   have hg0 : zs[ia]? = some (gd zs (ia)) := zJ jO
   have hw0 := zT (gd zs (ia))
   have hg1 : zs[ia + k]? = some (gd zs (ia + k)) := zJ jO
   have hw1 := zT (gd zs (ia + k))
   refine yt (clsL [1, 1, 1, 1, 1, 1, 1, 1, 1, 1, 1, 0, 1, 1, 1, 0, 1, 2, 1, 2]) qk ?_
   refine ze 0 rfl rfl (z5 rfl rfl (zd (ze 1 rfl rfl (z5 rfl rfl (zd (ze 2 rfl rfl (z5 rfl rfl (zd (ze 3 rfl rfl (z5 rfl rfl (zd (ze 4 rfl rfl (z5 rfl rfl (zv (t := 40) (u := .int .i64 ((k : Nat) : Int)) rfl (congrArg (Value.int .i64) jO) ?_))))))))))))))
   refine zd (ze 5 rfl rfl (zH rfl rfl rfl jO ?_))
   refine zd (ze 6 rfl rfl (z5 rfl rfl (zd (ze 7 rfl rfl (z5 rfl rfl (zd (ze 8 rfl rfl (z5 rfl rfl (zv (t := 44) (u := .int .i64 ((k : Nat) : Int)) rfl (congrArg (Value.int .i64) jO) ?_)))))))))
   refine zd (ze 9 rfl rfl (zH rfl rfl rfl jO ?_))
   refine zd (ze 10 rfl rfl (zV (i := ia + k) rfl zA zN rfl rfl jR qI ?_))
   refine zd (ze 12 rfl rfl (z5 rfl rfl (zd (ze 13 rfl rfl (z5 rfl rfl (zd (ze 14 rfl rfl (zV (i := ia) rfl zA zN rfl rfl jR qI ?_))))))))
   refine zd (y8 (i := 11) rfl rfl rfl rfl qk qk qk qk rfl qD qF ?_)
   refine zp rfl zu rfl (yg qM (zU hg1) hw1) ?_
   refine zd (y8 (i := 15) rfl rfl rfl rfl qk qk qk qk rfl qD qF ?_)
   refine zp rfl zu rfl (yg qM (zU hg0) hw0) ?_
   refine zd (ze 16 rfl rfl (zV (i := ia) rfl zA zN rfl rfl jR qI ?_))
   refine zd (zy 17 rfl (yS (ia) zu rfl jR rfl qL qO qP qI ?_))
   refine zw rfl qD ?_
   refine ze 18 rfl rfl (zV (i := ia + k) rfl zA zN rfl rfl jR qI ?_)
   refine zd (zy 19 rfl (yS (ia + k) zu rfl jR rfl qL qO qP qI ?_))
   refine zw rfl qD ?_
   refine y6 qk ?_
   refine y4 _ ((sw zs (ia) (ia + k)).map iC) qP (by rw [sw, List.map_set, List.map_set]) ?_
   have hTp := hT.pop hO hI hH jO jO
   refine z4 (z8 (z5 rfl rfl (z5 rfl rfl (z5 rfl rfl (zv (t := 56) (u := .int .i64 ((k : Nat) : Int)) rfl (congrArg (Value.int .i64) jO) ?_)))))
   refine z5 rfl rfl (z5 rfl rfl (zx rfl (ev5 rfl rfl rfl rfl rfl) qD qS (sift_spec hO hI hc (xs := sw zs ia (ia + k)) (lo := 0) (hi := k) (f := ia) hTp.2 jO hb jO) ?_))
   rintro _ _ _ ⟨ys, rfl, hP1, hH1, rfl, rfl⟩
   refine zt qA qA ?_
   refine z7 (zI (z4 (z8 (z5 rfl rfl (y7 rfl rfl rfl jO ?_)))))
   refine zv (t := 35) (u := .int .i64 ((k : Int) - 1)) rfl (congrArg (Value.int .i64) jO) ?_
   exact z9 rfl rfl (z7 (z4 (zM ⟨k, ys, ⟨by omega, (hP.trans (ys := zs) (zs := sw zs ia (ia + k)) (.sw jO jO jO jO jO)).trans (hP1.wide jO jO), hH1, hTp.1.pi hP1⟩, rfl, rfl, rfl, rfl⟩ qI (.c 12 rfl <| za _) (.c 0 rfl <| .c 3 rfl <| .c 8 rfl <| .c 9 rfl <| za _) qD qD qF)))
  ·try simp only [dq] at h33
   obtain rfl : k1 = 0 := by omega
   exact zR (zq (zq (zS (yW (by simp) rfl ⟨zs, rfl, hP, hT.all jO, rfl, rfl⟩ qD qF))))
end Cv
set_option maxRecDepth 10000
namespace Cv
open Go Go.Proofs

theorem brk_spec {g pb po len cap : Nat} {cf : ID32 → ID32 → Int} {xs : List ID32} (hO : SWO cf) (hI : ∀ x : ID32, ¬ cf x x < 0) (hc : ∀ x y : ID32, Spec Tryz.prog g [.agg (iC x).toArray, .agg (iC y).toArray] [] [] (fun u D' M' => u = .int .i64 (cf x y) ∧ D' = [] ∧ M' = [])) {ia ib : Nat} (h12 : ia + 12 < ib) (hib : ib ≤ len) (hb : len ≤ 60000) : Spec Tryz.prog 147 [.slice (some ⟨pb, po, none⟩) len cap, .int .i64 (ia : Int), .int .i64 (ib : Int), fnV g []] [] [own 32 38 (some ⟨pb, po, none⟩) len cap ((xs).map iC)] (fun v D' M' => ∃ (ys : List ID32), v = .tuple #[] ∧ (PI ia ib xs ys) ∧ D' = [] ∧ M' = [own 32 38 (some ⟨pb, po, none⟩) len cap ((ys).map iC)]) := by
 refine zC (n := 67) Tryz.func147 ?_
 intro σ D M
 refine xi qM (fun hl hcc => ?_)
 rw [List.length_map] at hl
 obtain ⟨ln, hL⟩ : ∃ ln, ln = ib - ia := ⟨_, rfl⟩
 refine z6 (z8 (z5 rfl rfl (z5 rfl rfl (y7 rfl rfl rfl jO ?_))))
 refine zv (t := 15) (u := .int .i64 ((ln : Nat) : Int)) rfl (congrArg (Value.int .i64) jO) ?_
 refine z9 rfl rfl (z7 (z4 (z6 (z8 (z5 rfl rfl (x6 rfl rfl rfl (z7 (z4 (xk rfl (decide_eq_true jO) ?_)))))))))
 refine z6 (z8 (z5 rfl rfl (L.convU rfl xf Tryz.underlying268 rfl jO ?_)))
 refine zL rfl ze268 (fun b9 => ?_)
 refine yv sc268 rfl rfl rfl qU qE ?_
 refine z7 (z4 (z6 (z8 (z5 rfl rfl (zx rfl (ev1 rfl) qD qS (npow_spec (n := ln) jO) ?_)))))
 rintro _ _ _ ⟨k, rfl, hk, hk16, rfl, rfl⟩
 refine zt qA qA ?_
 have hk1 := hk.lt
 have hk2 := hk.le
 have hk3 := two_pow_le (k := k) jO
 have hk4 : 1 ≤ 2 ^ k := Nat.one_le_two_pow
 refine z9 rfl rfl (z7 (z4 (z6 (z8 (z5 rfl rfl (z5 rfl rfl (L.quoN rfl rfl rfl qI ?_)))))))
 refine L.mulN rfl rfl rfl jO ?_
 refine zH rfl rfl rfl jO ?_
 refine y7 rfl rfl rfl jO ?_
 refine zv (t := 27) (u := .int .i64 ((ia + ln / 4 * 2 - 1 : Nat) : Int)) rfl (congrArg (Value.int .i64) jO) ?_
 refine z9 rfl rfl (z7 (z4 (zr (zX (fun K' D' M' μ => ∃ (i : Nat) (x0 : Int) (zs : List ID32), ((ia + ln / 4 * 2 - 1 ≤ i ∧ i ≤ ia + ln / 4 * 2 + 2) ∧ PI ia ib xs zs) ∧ K' = [(11, .int .i64 (i : Int))] ∧ D' = [] ∧ M' = [own 32 38 (some ⟨pb, po, none⟩) len cap ((zs).map iC), cl b9 268 [.int .u64 x0]] ∧ μ = ia + ln / 4 * 2 + 2 - i) (.c 0 rfl <| .c 1 rfl <| .c 8 rfl <| .c 9 rfl <| .c 10 rfl <| za _) (⟨ia + ln / 4 * 2 - 1, _, xs, ⟨by omega, .refl _ _ _⟩, rfl, rfl, rfl, rfl⟩) (.c 11 rfl <| za _) qD qS ?_))))
 rintro K1 D1 M1 m1 ⟨i, x0, zs, ⟨hi, hP⟩, rfl, rfl, rfl, rfl⟩
 refine zF qA qA qA ?_
 have hzl := hP.len
 refine z6 (z6 (z8 (z5 rfl rfl (z5 rfl rfl (z5 rfl rfl (L.quoN rfl rfl rfl qI ?_))))))
 refine L.mulN rfl rfl rfl jO ?_
 refine zH rfl rfl rfl jO ?_
 refine zH rfl rfl rfl jO ?_
 refine zv (t := 34) (u := .int .i64 ((ia + ln / 4 * 2 + 1 : Nat) : Int)) rfl (congrArg (Value.int .i64) jO) ?_
 refine L.leI rfl rfl rfl (z7 (z4 (zo rfl (fun h35 => ?_) (fun h35 => ?_))))
 ·try simp only [dq] at h35
  refine zm (z4 (z6 (zr (z6 (z8 (zx rfl (ev1 rfl) qD qS (xnext_spec (b := b9) (z := x0)) ?_))))))
  rintro _ _ _ ⟨xr, rfl, rfl, rfl⟩
  refine zt qA qA ?_
  refine z5 rfl rfl (L.subU rfl rfl rfl jO ?_)
  refine zv (t := 40) (u := .int .u64 ((2 ^ k - 1 : Nat) : Int)) rfl (congrArg (Value.int .u64) jO) ?_
  refine L.andI rfl rfl rfl ?_
  have hand := bitsAnd_u64 xr (2 ^ k - 1) jO
  obtain ⟨z, hz⟩ : ∃ z : Nat, bitsAnd .u64 xr ((2 ^ k - 1 : Nat) : Int) = (z : Int) := ⟨(bitsAnd .u64 xr ((2 ^ k - 1 : Nat) : Int)).toNat, by omega⟩
  rw [hz]
  rw [hz] at hand
  refine L.convN rfl xH xf rfl qI ?_
  refine z9 rfl rfl (z7 (z4 (z6 (z6 (z8 (z5 rfl rfl (z5 rfl rfl (x6 rfl rfl rfl (z7 (z4 (yu (fun K' D' M' => ∃ (w : Nat), (w < ln) ∧ K' = [(12, .int .i64 (w : Int))] ∧ D' = [] ∧ M' = []) (M0 := []) (.c 0 rfl <| .c 1 rfl <| .c 8 rfl <| .c 9 rfl <| .c 10 rfl <| .c 11 rfl <| za _) qS ?_ ?_)))))))))))
  ·skip
   refine zo rfl (fun h45 => ?_) (fun h45 => ?_)
   ·try simp only [dq] at h45
    refine z8 (z5 rfl rfl (z5 rfl rfl (y7 rfl rfl rfl jO ?_)))
    refine zv (t := 48) (u := .int .i64 ((z - ln : Nat) : Int)) rfl (congrArg (Value.int .i64) jO) ?_
    exact z9 rfl rfl (z7 (z4 (zK ⟨z - ln, jO, rfl, rfl, rfl⟩ (.c 12 rfl <| za _) (.c 0 rfl <| .c 1 rfl <| .c 8 rfl <| .c 9 rfl <| .c 10 rfl <| .c 11 rfl <| za _) qD qD qF)))
   ·try simp only [dq] at h45
    exact zm (z4 (zK ⟨z, jO, rfl, rfl, rfl⟩ (.c 12 rfl <| za _) (.c 0 rfl <| .c 1 rfl <| .c 8 rfl <| .c 9 rfl <| .c 10 rfl <| .c 11 rfl <| za _) qD qD qF))
  rintro _ _ _ ⟨w, hw, rfl, rfl, rfl⟩
  refine zF qA qA qA ?_
  refine z4 ?_
  have hg0 : zs[i]? = some (gd zs (i)) := zJ jO
  have hw0 := zT (gd zs (i))
  have hg1 : zs[ia + w]? = some (gd zs (ia + w)) := zJ jO
  have hw1 := zT (gd zs (ia + w))
  refine yt (clsL [1, 1, 1, 1, 1, 1, 1, 1, 1, 1, 1, 0, 1, 1, 1, 0, 1, 2, 1, 2]) qk ?_
  refine ze 0 rfl rfl (z5 rfl rfl (zd (ze 1 rfl rfl (z5 rfl rfl (zd (ze 2 rfl rfl (z5 rfl rfl (zd (ze 3 rfl rfl (z5 rfl rfl (zd (ze 4 rfl rfl (z5 rfl rfl (zd (ze 5 rfl rfl (zH rfl rfl rfl jO ?_))))))))))))))))
  refine zd (ze 6 rfl rfl (z5 rfl rfl (zd (ze 7 rfl rfl (z5 rfl rfl (zd (ze 8 rfl rfl (z5 rfl rfl (zd (ze 9 rfl rfl (zH rfl rfl rfl jO ?_)))))))))))
  refine zd (ze 10 rfl rfl (zV (i := ia + w) rfl zA zN rfl rfl jR qI ?_))
  refine zd (ze 12 rfl rfl (z5 rfl rfl (zd (ze 13 rfl rfl (z5 rfl rfl (zd (ze 14 rfl rfl (zV (i := i) rfl zA zN rfl rfl jR qI ?_))))))))
  refine zd (y8 (i := 11) rfl rfl rfl rfl qk qk qk qk rfl qD qF ?_)
  refine zp rfl zu rfl (yg qM (zU hg1) hw1) ?_
  refine zd (y8 (i := 15) rfl rfl rfl rfl qk qk qk qk rfl qD qF ?_)
  refine zp rfl zu rfl (yg qM (zU hg0) hw0) ?_
  refine zd (ze 16 rfl rfl (zV (i := i) rfl zA zN rfl rfl jR qI ?_))
  refine zd (zy 17 rfl (yS (i) zu rfl jR rfl qL qO qP qI ?_))
  refine zw rfl qD ?_
  refine ze 18 rfl rfl (zV (i := ia + w) rfl zA zN rfl rfl jR qI ?_)
  refine zd (zy 19 rfl (yS (ia + w) zu rfl jR rfl qL qO qP qI ?_))
  refine zw rfl qD ?_
  refine y6 qk ?_
  refine y4 _ ((sw zs (i) (ia + w)).map iC) qP (by rw [sw, List.map_set, List.map_set]) ?_
  refine zI (z4 (z8 (z5 rfl rfl (zH rfl rfl rfl jO ?_))))
  exact z9 rfl rfl (z7 (z4 (zM ⟨i + 1, _, sw zs i (ia + w), ⟨by omega, hP.trans (.sw jO jO jO jO jO)⟩, rfl, rfl, rfl, rfl⟩ qI (.c 11 rfl <| za _) (.c 0 rfl <| .c 1 rfl <| .c 8 rfl <| .c 9 rfl <| .c 10 rfl <| za _) qD qD qF)))
 ·try simp only [dq] at h35
  exact zR (zq (zq (zS (yW (by simp) rfl ⟨zs, rfl, hP, rfl, rfl⟩ qD qF))))
theorem part_spec {g pb po len cap : Nat} {cf : ID32 → ID32 → Int} {xs : List ID32} (hO : SWO cf) (hI : ∀ x : ID32, ¬ cf x x < 0) (hc : ∀ x y : ID32, Spec Tryz.prog g [.agg (iC x).toArray, .agg (iC y).toArray] [] [] (fun u D' M' => u = .int .i64 (cf x y) ∧ D' = [] ∧ M' = [])) {ia ib : Nat} (hSB : SB cf xs ia ib ia ib) (hab : ia < ib) (hib : ib ≤ len) (hb : len ≤ 60000) : Spec Tryz.prog 150 [.slice (some ⟨pb, po, none⟩) len cap, .int .i64 (ia : Int), .int .i64 (ib : Int), fnV g []] [] [own 32 38 (some ⟨pb, po, none⟩) len cap ((xs).map iC)] (fun v D' M' => ∃ (ys : List ID32) (ok : Bool), v = .bool ok ∧ (PI ia ib xs ys) ∧ (ok = true → SrtP cf ys ia ib) ∧ D' = [] ∧ M' = [own 32 38 (some ⟨pb, po, none⟩) len cap ((ys).map iC)]) := by
 refine zC (n := 141) Tryz.func150 ?_
 intro σ D M
 refine xi qM (fun hl hcc => ?_)
 rw [List.length_map] at hl
 have hpre : ∀ zs, PI ia ib xs zs → ∀ q, ia ≤ q → q < ib → 0 < ia → NL cf zs (ia - 1) q := fun zs hP q q1 q2 q3 => (hSB.pi hP (Nat.le_refl _) (Nat.le_refl _)) (ia - 1) q jO q1 q2 jO
 refine z6 (z8 (z9 rfl rfl (z7 (z4 (z6 (z8 (z5 rfl rfl (zH rfl rfl rfl jO ?_))))))))
 refine zv (t := 14) (u := .int .i64 ((ia + 1 : Nat) : Int)) rfl (congrArg (Value.int .i64) jO) ?_
 refine z9 rfl rfl (z7 (z4 (z6 (z6 (z8 (z9 rfl rfl (z7 (z4 (zr (zX (fun K' D' M' μ => ∃ (i c : Nat) (zs : List ID32), ((ia + 1 ≤ i ∧ i ≤ ib ∧ c ≤ 5) ∧ PI ia ib xs zs ∧ SrtP cf zs ia i) ∧ K' = [(9, .int .i64 (i : Int)), (10, .int .i64 (c : Int))] ∧ D' = [] ∧ M' = [own 32 38 (some ⟨pb, po, none⟩) len cap ((zs).map iC)] ∧ μ = 5 - c) (.c 0 rfl <| .c 1 rfl <| .c 2 rfl <| .c 3 rfl <| za _) (⟨ia + 1, 0, xs, ⟨by omega, .refl _ _ _, .one⟩, rfl, rfl, rfl, rfl⟩) (.c 9 rfl <| .c 10 rfl <| za _) qD qS ?_))))))))))
 rintro K1 D1 M1 m1 ⟨i, c, zs, ⟨hi, hP, hS⟩, rfl, rfl, rfl, rfl⟩
 refine zF qA qA qA ?_
 have hzl := hP.len
 refine z6 (z6 (z8 (z5 rfl rfl (zQ rfl rfl rfl (z7 (z4 (zo rfl (fun h16 => ?_) (fun h16 => ?_))))))))
 ·try simp only [dq] at h16
  refine zm (z4 (z6 (zr (z6 (yu (fun K' D' M' => ∃ (i : Nat), ((ia + 1 ≤ i ∧ i ≤ ib) ∧ SrtP cf zs ia i ∧ (i < ib → cf (gd zs i) (gd zs (i - 1)) < 0)) ∧ K' = [(9, .int .i64 (i : Int))] ∧ D' = [] ∧ M' = [own 32 38 (some ⟨pb, po, none⟩) len cap ((zs).map iC)]) (M0 := [own 32 38 (some ⟨pb, po, none⟩) len cap ((zs).map iC)]) (.c 0 rfl <| .c 1 rfl <| .c 2 rfl <| .c 3 rfl <| .c 10 rfl <| za _) qS ?_ ?_)))))
  ·skip
   refine zr (zX (fun K' D' M' μ => ∃ (i : Nat), ((ia + 1 ≤ i ∧ i ≤ ib) ∧ SrtP cf zs ia i) ∧ K' = [(9, .int .i64 (i : Int))] ∧ D' = [] ∧ M' = [own 32 38 (some ⟨pb, po, none⟩) len cap ((zs).map iC)] ∧ μ = ib - i) (.c 0 rfl <| .c 1 rfl <| .c 2 rfl <| .c 3 rfl <| .c 10 rfl <| za _) (⟨i, ⟨by omega, hS⟩, rfl, rfl, rfl, rfl⟩) (.c 9 rfl <| za _) qD qS ?_)
   rintro K1 D1 M1 m1 ⟨i, ⟨hi, hS⟩, rfl, rfl, rfl, rfl⟩
   refine zF qA qA qA ?_
   refine z6 (z6 ?_)
   rcases Nat.lt_or_ge i ib with hib2 | hib2
   ·skip
    have hg0 : zs[i]? = some (gd zs (i)) := zJ jO
    have hw0 := zT (gd zs (i))
    have hg1 : zs[i - 1]? = some (gd zs (i - 1)) := zJ jO
    have hw1 := zT (gd zs (i - 1))
    refine yC qk qk (z5 rfl rfl (z5 rfl rfl (zQ rfl rfl rfl (z5 rfl rfl (zv (t := 22) rfl (show _ = Value.bool true from congrArg Value.bool (decide_eq_true jO)) ?_)))))
    refine zf (dj := 22) rfl rfl rfl (z5 rfl rfl (zf (dj := 22) rfl rfl rfl (z5 rfl rfl (zf (dj := 22) rfl rfl rfl (z5 rfl rfl (zf (dj := 22) rfl rfl rfl (zV (i := i) rfl zA zN rfl rfl jR qI ?_)))))))
    refine zf (dj := 22) rfl rfl rfl (zp rfl zu rfl (yg qM (zU hg0) hw0) ?_)
    refine zf (dj := 22) rfl rfl rfl (z5 rfl rfl (zf (dj := 22) rfl rfl rfl (z5 rfl rfl (zf (dj := 22) rfl rfl rfl (y7 rfl rfl rfl jO ?_)))))
    refine zv (t := 30) (u := .int .i64 ((i - 1 : Nat) : Int)) rfl (congrArg (Value.int .i64) jO) ?_
    refine zf (dj := 22) rfl rfl rfl (zV (i := i - 1) rfl zA zN rfl rfl jR qI ?_)
    refine zf (dj := 22) rfl rfl rfl (zp rfl zu rfl (yg qM (zU hg1) hw1) ?_)
    refine zf (dj := 22) rfl rfl rfl (xv rfl rfl (ev2 rfl rfl) qD qS (hc (gd zs i) (gd zs (i - 1))) jF ?_)
    refine zf (dj := 22) rfl rfl rfl (zQ rfl rfl rfl (zf (dj := 22) rfl rfl rfl (yX rfl rfl (ye rfl rfl rfl (yA (z4 (zo rfl (fun h36 => ?_) (fun h36 => ?_))))))))
    ·try simp only [dq] at h36
     refine zm (z4 (zr (z8 (z5 rfl rfl (zH rfl rfl rfl jO ?_)))))
     exact z9 rfl rfl (z7 (zI (z4 (zM ⟨i + 1, ⟨by omega, hS.more hO (fun _ => h36)⟩, rfl, rfl, rfl, rfl⟩ qI (.c 9 rfl <| za _) (.c 0 rfl <| .c 1 rfl <| .c 2 rfl <| .c 3 rfl <| .c 10 rfl <| za _) qD qD qF))))
    ·try simp only [dq] at h36
     exact zR (zq (zq (zS (z4 (zK ⟨i, ⟨by omega, hS, fun _ => h36⟩, rfl, rfl, rfl⟩ (.c 9 rfl <| za _) (.c 0 rfl <| .c 1 rfl <| .c 2 rfl <| .c 3 rfl <| .c 10 rfl <| za _) qD qD qF)))))
   ·skip
    refine yC qk qk (z5 rfl rfl (z5 rfl rfl (zQ rfl rfl rfl (z5 rfl rfl (zv (t := 22) rfl (show _ = Value.bool false from congrArg Value.bool (decide_eq_false jO)) ?_)))))
    refine zg (dj := 22) (c := false) rfl rfl rfl rfl rfl jD (zg (dj := 22) (c := false) rfl rfl rfl rfl rfl jD (zg (dj := 22) (c := false) rfl rfl rfl rfl rfl jD (zg (dj := 22) (c := false) rfl rfl rfl rfl rfl jD (zg (dj := 22) (c := false) rfl rfl rfl rfl rfl jD (zg (dj := 22) (c := false) rfl rfl rfl rfl rfl jD (zg (dj := 22) (c := false) rfl rfl rfl rfl rfl jD (zg (dj := 22) (c := false) rfl rfl rfl rfl rfl jD (zg (dj := 22) (c := false) rfl rfl rfl rfl rfl jD (zg (dj := 22) (c := false) rfl rfl rfl rfl rfl jD (zg (dj := 22) (c := false) rfl rfl rfl rfl rfl jD (zg (dj := 22) (c := false) rfl rfl rfl rfl rfl jD (zg (dj := 22) (c := false) rfl rfl rfl rfl rfl jD (y5 rfl rfl rfl (yA (z4 (ym rfl rfl ?_))))))))))))))))
    exact zR (zq (zq (zS (z4 (zK ⟨i, ⟨by omega, hS, fun e => absurd e jO⟩, rfl, rfl, rfl⟩ (.c 9 rfl <| za _) (.c 0 rfl <| .c 1 rfl <| .c 2 rfl <| .c 3 rfl <| .c 10 rfl <| za _) qD qD qF)))))
  rintro _ _ _ ⟨i, ⟨hi3, hS, hlt⟩, rfl, rfl, rfl⟩
  refine zF qA qA qA ?_
  refine z4 (z6 (z6 (z8 (z5 rfl rfl (z5 rfl rfl (yj rfl rfl rfl (z7 (z4 (zo rfl (fun h41 => ?_) (fun h41 => ?_))))))))))
  ·try simp only [dq] at h41
   exact z6 (z8 (z9 rfl rfl (z7 (z4 (zi (zD (y3 (zD (zD (y3 (zD (zz rfl rfl ⟨zs, true, rfl, hP, fun _ => (show i = ib by omega) ▸ hS, rfl, rfl⟩ qD qF))))))))))))
  ·try simp only [dq] at h41
   refine zm (z4 (z6 (z6 (z8 (z5 rfl rfl (z5 rfl rfl (y7 rfl rfl rfl jO ?_)))))))
   refine zQ rfl rfl rfl (z7 (z4 (zo rfl (fun h45 => ?_) (fun h45 => ?_))))
   ·try simp only [dq] at h45
    exact z6 (z8 (z9 rfl rfl (z7 (z4 (zi (zD (y3 (zD (zD (y3 (zD (zz rfl rfl ⟨zs, false, rfl, hP, fun e => (by cases e), rfl, rfl⟩ qD qF))))))))))))
   ·try simp only [dq] at h45
    refine zm (z4 (z6 ?_))
    have hg0 : zs[i]? = some (gd zs (i)) := zJ jO
    have hw0 := zT (gd zs (i))
    have hg1 : zs[i - 1]? = some (gd zs (i - 1)) := zJ jO
    have hw1 := zT (gd zs (i - 1))
    refine yt (clsL [1, 1, 1, 1, 1, 1, 1, 1, 1, 0, 1, 1, 1, 0, 1, 2, 1, 2]) qk ?_
    refine ze 0 rfl rfl (z5 rfl rfl (zd (ze 1 rfl rfl (z5 rfl rfl (zd (ze 2 rfl rfl (z5 rfl rfl (zd (ze 3 rfl rfl (z5 rfl rfl (zd (ze 4 rfl rfl (y7 rfl rfl rfl jO ?_)))))))))))))
    refine zv (t := 50) (u := .int .i64 ((i - 1 : Nat) : Int)) rfl (congrArg (Value.int .i64) jO) ?_
    refine zd (ze 5 rfl rfl (z5 rfl rfl (zd (ze 6 rfl rfl (z5 rfl rfl (zd (ze 7 rfl rfl (y7 rfl rfl rfl jO ?_))))))))
    refine zv (t := 53) (u := .int .i64 ((i - 1 : Nat) : Int)) rfl (congrArg (Value.int .i64) jO) ?_
    refine zd (ze 8 rfl rfl (zV (i := i - 1) rfl zA zN rfl rfl jR qI ?_))
    refine zd (ze 10 rfl rfl (z5 rfl rfl (zd (ze 11 rfl rfl (z5 rfl rfl (zd (ze 12 rfl rfl (zV (i := i) rfl zA zN rfl rfl jR qI ?_))))))))
    refine zd (y8 (i := 9) rfl rfl rfl rfl qk qk qk qk rfl qD qF ?_)
    refine zp rfl zu rfl (yg qM (zU hg1) hw1) ?_
    refine zd (y8 (i := 13) rfl rfl rfl rfl qk qk qk qk rfl qD qF ?_)
    refine zp rfl zu rfl (yg qM (zU hg0) hw0) ?_
    refine zd (ze 14 rfl rfl (zV (i := i) rfl zA zN rfl rfl jR qI ?_))
    refine zd (zy 15 rfl (yS (i) zu rfl jR rfl qL qO qP qI ?_))
    refine zw rfl qD ?_
    refine ze 16 rfl rfl (zV (i := i - 1) rfl zA zN rfl rfl jR qI ?_)
    refine zd (zy 17 rfl (yS (i - 1) zu rfl jR rfl qL qO qP qI ?_))
    refine zw rfl qD ?_
    refine y6 qk ?_
    refine y4 _ ((sw zs (i) (i - 1)).map iC) qP (by rw [sw, List.map_set, List.map_set]) ?_
    have hP1 := hP.trans (PI.sw (a := ia) (b := ib) (xs := zs) (i := i) (j := i - 1) jO jO jO jO jO)
    have hB1 : InB cf (sw zs i (i - 1)) ia (i - 1) (i - 1) := SrtP.start (SrtP.pi (b := ib) (fun p q h1 h2 h3 => hS p q h1 h2 jO) (.sw jO jO jO jO jO))
    refine z4 (z6 (z6 (z8 (z5 rfl rfl (z5 rfl rfl (y7 rfl rfl rfl jO ?_))))))
    refine x6 rfl rfl rfl (z7 (z4 (yu (fun K' D' M' => ∃ (ys : List ID32), (PI ia ib xs ys ∧ SrtP cf ys ia i) ∧ K' = [] ∧ D' = [] ∧ M' = [own 32 38 (some ⟨pb, po, none⟩) len cap ((ys).map iC)]) (M0 := [own 32 38 (some ⟨pb, po, none⟩) len cap ((sw zs i (i - 1)).map iC)]) (.c 0 rfl <| .c 1 rfl <| .c 2 rfl <| .c 3 rfl <| .c 9 rfl <| .c 10 rfl <| za _) qS ?_ ?_)))
    ·skip
     refine zo rfl (fun h65 => ?_) (fun h65 => ?_)
     ·try simp only [dq] at h65
      refine z6 (z8 (z5 rfl rfl (y7 rfl rfl rfl jO ?_)))
      refine zv (t := 67) (u := .int .i64 ((i - 1 : Nat) : Int)) rfl (congrArg (Value.int .i64) jO) ?_
      refine z9 rfl rfl (z7 (z4 (zr (zX (fun K' D' M' μ => ∃ (j : Nat) (ws : List ID32), ((ia ≤ j ∧ j ≤ i - 1) ∧ PI ia ib xs ws ∧ InB cf ws ia (i - 1) j) ∧ K' = [(11, .int .i64 (j : Int))] ∧ D' = [] ∧ M' = [own 32 38 (some ⟨pb, po, none⟩) len cap ((ws).map iC)] ∧ μ = 2 * j) (.c 0 rfl <| .c 1 rfl <| .c 2 rfl <| .c 3 rfl <| .c 9 rfl <| .c 10 rfl <| za _) (⟨i - 1, sw zs i (i - 1), ⟨by omega, hP1, hB1⟩, rfl, rfl, rfl, rfl⟩) (.c 11 rfl <| za _) qD qS ?_))))
      rintro K1 D1 M1 m1 ⟨j, ws, ⟨hj, hP2, hB⟩, rfl, rfl, rfl, rfl⟩
      refine zF qA qA qA ?_
      have hwl := hP2.len
      refine z6 (z6 (z8 (z5 rfl rfl (x6 rfl rfl rfl (z7 (z4 (zo rfl (fun h69 => ?_) (fun h69 => ?_))))))))
      ·try simp only [dq] at h69
       refine zm (z4 (z6 (zr (z6 (z6 ?_)))))
       have hg0 : ws[j]? = some (gd ws (j)) := zJ jO
       have hw0 := zT (gd ws (j))
       have hg1 : ws[j - 1]? = some (gd ws (j - 1)) := zJ jO
       have hw1 := zT (gd ws (j - 1))
       refine yC qk qk (z5 rfl rfl (z5 rfl rfl (z5 rfl rfl (zV (i := j) rfl zA zN rfl rfl jR qI ?_))))
       refine zp rfl zu rfl (yg qM (zU hg0) hw0) ?_
       refine z5 rfl rfl (z5 rfl rfl (y7 rfl rfl rfl jO ?_))
       refine zv (t := 79) (u := .int .i64 ((j - 1 : Nat) : Int)) rfl (congrArg (Value.int .i64) jO) ?_
       refine zV (i := j - 1) rfl zA zN rfl rfl jR qI ?_
       refine zp rfl zu rfl (yg qM (zU hg1) hw1) ?_
       refine xv rfl rfl (ev2 rfl rfl) qD qS (hc (gd ws j) (gd ws (j - 1))) jF ?_
       refine zQ rfl rfl rfl (yX rfl rfl (yA (z4 (zo rfl (fun h84 => ?_) (fun h84 => ?_)))))
       ·try simp only [dq] at h84
        have hend : SrtP cf ws ia i := (show i - 1 + 1 = i by omega) ▸ hB.stop hO jO jO (fun _ => h84)
        refine zR (zq (T.blkY rfl ?_))
        exact zq (zq (zS (z4 (zK ⟨ws, ⟨hP2, hend⟩, rfl, rfl, rfl⟩ (za _) (.c 0 rfl <| .c 1 rfl <| .c 2 rfl <| .c 3 rfl <| .c 9 rfl <| .c 10 rfl <| za _) qD qD qF))))
       ·try simp only [dq] at h84
        have hij : ia < j := Decidable.byContradiction fun q => absurd h84 (by have := hpre ws hP2 j jO jO jO; rwa [show ia - 1 = j - 1 by omega] at this)
        refine zm (z4 ?_)
        have hg0 : ws[j]? = some (gd ws (j)) := zJ jO
        have hw0 := zT (gd ws (j))
        have hg1 : ws[j - 1]? = some (gd ws (j - 1)) := zJ jO
        have hw1 := zT (gd ws (j - 1))
        refine yt (clsL [1, 1, 1, 1, 1, 1, 1, 1, 1, 0, 1, 1, 1, 0, 1, 2, 1, 2]) qk ?_
        refine ze 0 rfl rfl (z5 rfl rfl (zd (ze 1 rfl rfl (z5 rfl rfl (zd (ze 2 rfl rfl (z5 rfl rfl (zd (ze 3 rfl rfl (z5 rfl rfl (zd (ze 4 rfl rfl (y7 rfl rfl rfl jO ?_)))))))))))))
        refine zv (t := 89) (u := .int .i64 ((j - 1 : Nat) : Int)) rfl (congrArg (Value.int .i64) jO) ?_
        refine zd (ze 5 rfl rfl (z5 rfl rfl (zd (ze 6 rfl rfl (z5 rfl rfl (zd (ze 7 rfl rfl (y7 rfl rfl rfl jO ?_))))))))
        refine zv (t := 92) (u := .int .i64 ((j - 1 : Nat) : Int)) rfl (congrArg (Value.int .i64) jO) ?_
        refine zd (ze 8 rfl rfl (zV (i := j - 1) rfl zA zN rfl rfl jR qI ?_))
        refine zd (ze 10 rfl rfl (z5 rfl rfl (zd (ze 11 rfl rfl (z5 rfl rfl (zd (ze 12 rfl rfl (zV (i := j) rfl zA zN rfl rfl jR qI ?_))))))))
        refine zd (y8 (i := 9) rfl rfl rfl rfl qk qk qk qk rfl qD qF ?_)
        refine zp rfl zu rfl (yg qM (zU hg1) hw1) ?_
        refine zd (y8 (i := 13) rfl rfl rfl rfl qk qk qk qk rfl qD qF ?_)
        refine zp rfl zu rfl (yg qM (zU hg0) hw0) ?_
        refine zd (ze 14 rfl rfl (zV (i := j) rfl zA zN rfl rfl jR qI ?_))
        refine zd (zy 15 rfl (yS (j) zu rfl jR rfl qL qO qP qI ?_))
        refine zw rfl qD ?_
        refine ze 16 rfl rfl (zV (i := j - 1) rfl zA zN rfl rfl jR qI ?_)
        refine zd (zy 17 rfl (yS (j - 1) zu rfl jR rfl qL qO qP qI ?_))
        refine zw rfl qD ?_
        refine y6 qk ?_
        refine y4 _ ((sw ws (j) (j - 1)).map iC) qP (by rw [sw, List.map_set, List.map_set]) ?_
        refine zI (z4 (z8 (z5 rfl rfl (y7 rfl rfl rfl jO ?_))))
        refine zv (t := 71) (u := .int .i64 ((j - 1 : Nat) : Int)) rfl (congrArg (Value.int .i64) jO) ?_
        exact z9 rfl rfl (z7 (z4 (zM ⟨j - 1, sw ws j (j - 1), ⟨by omega, hP2.trans (.sw jO jO jO jO jO), hB.swap hO jO jO hij h84⟩, rfl, rfl, rfl, rfl⟩ qI (.c 11 rfl <| za _) (.c 0 rfl <| .c 1 rfl <| .c 2 rfl <| .c 3 rfl <| .c 9 rfl <| .c 10 rfl <| za _) qD qD qF)))
      ·try simp only [dq] at h69
       have hend : SrtP cf ws ia i := (show i - 1 + 1 = i by omega) ▸ hB.stop hO jO jO (fun e => absurd e jO)
       exact zR (zq (zq (zS (z4 (zK ⟨ws, ⟨hP2, hend⟩, rfl, rfl, rfl⟩ (za _) (.c 0 rfl <| .c 1 rfl <| .c 2 rfl <| .c 3 rfl <| .c 9 rfl <| .c 10 rfl <| za _) qD qD qF)))))
     ·try simp only [dq] at h65
      exact zm (z4 (zK ⟨sw zs i (i - 1), ⟨hP1, (show i = ia + 1 by omega) ▸ SrtP.one⟩, rfl, rfl, rfl⟩ (za _) (.c 0 rfl <| .c 1 rfl <| .c 2 rfl <| .c 3 rfl <| .c 9 rfl <| .c 10 rfl <| za _) qD qD qF))
    rintro _ _ _ ⟨ys, ⟨hP2, hS2⟩, rfl, rfl, rfl⟩
    refine zF qA qA qA ?_
    have hyl := hP2.len
    refine z4 (z6 (z8 (z5 rfl rfl (z5 rfl rfl (y7 rfl rfl rfl jO ?_)))))
    refine x6 rfl rfl rfl (z7 (z4 (yu (fun K' D' M' => ∃ (ws : List ID32), (PI ia ib xs ws ∧ SrtP cf ws ia i) ∧ K' = [] ∧ D' = [] ∧ M' = [own 32 38 (some ⟨pb, po, none⟩) len cap ((ws).map iC)]) (M0 := [own 32 38 (some ⟨pb, po, none⟩) len cap ((ys).map iC)]) (.c 0 rfl <| .c 1 rfl <| .c 2 rfl <| .c 3 rfl <| .c 9 rfl <| .c 10 rfl <| za _) qS ?_ ?_)))
    ·skip
     refine zo rfl (fun h104 => ?_) (fun h104 => ?_)
     ·try simp only [dq] at h104
      refine z6 (z8 (z5 rfl rfl (zH rfl rfl rfl jO ?_)))
      refine zv (t := 106) (u := .int .i64 ((i + 1 : Nat) : Int)) rfl (congrArg (Value.int .i64) jO) ?_
      refine z9 rfl rfl (z7 (z4 (zr (zX (fun K' D' M' μ => ∃ (j : Nat) (ws : List ID32), ((i + 1 ≤ j ∧ j ≤ ib) ∧ PI ia ib xs ws ∧ SrtP cf ws ia i) ∧ K' = [(12, .int .i64 (j : Int))] ∧ D' = [] ∧ M' = [own 32 38 (some ⟨pb, po, none⟩) len cap ((ws).map iC)] ∧ μ = ib - j) (.c 0 rfl <| .c 1 rfl <| .c 2 rfl <| .c 3 rfl <| .c 9 rfl <| .c 10 rfl <| za _) (⟨i + 1, ys, ⟨by omega, hP2, hS2⟩, rfl, rfl, rfl, rfl⟩) (.c 12 rfl <| za _) qD qS ?_))))
      rintro K1 D1 M1 m1 ⟨j, ws, ⟨hj, hP4, hS4⟩, rfl, rfl, rfl, rfl⟩
      refine zF qA qA qA ?_
      have hwl := hP4.len
      refine z6 (z6 (z8 (z5 rfl rfl (z5 rfl rfl (zQ rfl rfl rfl (z7 (z4 (zo rfl (fun h109 => ?_) (fun h109 => ?_)))))))))
      ·try simp only [dq] at h109
       refine zm (z4 (z6 (zr (z6 (z6 ?_)))))
       have hg0 : ws[j]? = some (gd ws (j)) := zJ jO
       have hw0 := zT (gd ws (j))
       have hg1 : ws[j - 1]? = some (gd ws (j - 1)) := zJ jO
       have hw1 := zT (gd ws (j - 1))
       refine yC qk qk (z5 rfl rfl (z5 rfl rfl (z5 rfl rfl (zV (i := j) rfl zA zN rfl rfl jR qI ?_))))
       refine zp rfl zu rfl (yg qM (zU hg0) hw0) ?_
       refine z5 rfl rfl (z5 rfl rfl (y7 rfl rfl rfl jO ?_))
       refine zv (t := 119) (u := .int .i64 ((j - 1 : Nat) : Int)) rfl (congrArg (Value.int .i64) jO) ?_
       refine zV (i := j - 1) rfl zA zN rfl rfl jR qI ?_
       refine zp rfl zu rfl (yg qM (zU hg1) hw1) ?_
       refine xv rfl rfl (ev2 rfl rfl) qD qS (hc (gd ws j) (gd ws (j - 1))) jF ?_
       refine zQ rfl rfl rfl (yX rfl rfl (yA (z4 (zo rfl (fun h124 => ?_) (fun h124 => ?_)))))
       ·try simp only [dq] at h124
        refine zR (zq (T.blkY rfl ?_))
        exact zq (zq (zS (z4 (zK ⟨ws, ⟨hP4, hS4⟩, rfl, rfl, rfl⟩ (za _) (.c 0 rfl <| .c 1 rfl <| .c 2 rfl <| .c 3 rfl <| .c 9 rfl <| .c 10 rfl <| za _) qD qD qF))))
       ·try simp only [dq] at h124
        refine zm (z4 ?_)
        have hg0 : ws[j]? = some (gd ws (j)) := zJ jO
        have hw0 := zT (gd ws (j))
        have hg1 : ws[j - 1]? = some (gd ws (j - 1)) := zJ jO
        have hw1 := zT (gd ws (j - 1))
        refine yt (clsL [1, 1, 1, 1, 1, 1, 1, 1, 1, 0, 1, 1, 1, 0, 1, 2, 1, 2]) qk ?_
        refine ze 0 rfl rfl (z5 rfl rfl (zd (ze 1 rfl rfl (z5 rfl rfl (zd (ze 2 rfl rfl (z5 rfl rfl (zd (ze 3 rfl rfl (z5 rfl rfl (zd (ze 4 rfl rfl (y7 rfl rfl rfl jO ?_)))))))))))))
        refine zv (t := 129) (u := .int .i64 ((j - 1 : Nat) : Int)) rfl (congrArg (Value.int .i64) jO) ?_
        refine zd (ze 5 rfl rfl (z5 rfl rfl (zd (ze 6 rfl rfl (z5 rfl rfl (zd (ze 7 rfl rfl (y7 rfl rfl rfl jO ?_))))))))
        refine zv (t := 132) (u := .int .i64 ((j - 1 : Nat) : Int)) rfl (congrArg (Value.int .i64) jO) ?_
        refine zd (ze 8 rfl rfl (zV (i := j - 1) rfl zA zN rfl rfl jR qI ?_))
        refine zd (ze 10 rfl rfl (z5 rfl rfl (zd (ze 11 rfl rfl (z5 rfl rfl (zd (ze 12 rfl rfl (zV (i := j) rfl zA zN rfl rfl jR qI ?_))))))))
        refine zd (y8 (i := 9) rfl rfl rfl rfl qk qk qk qk rfl qD qF ?_)
        refine zp rfl zu rfl (yg qM (zU hg1) hw1) ?_
        refine zd (y8 (i := 13) rfl rfl rfl rfl qk qk qk qk rfl qD qF ?_)
        refine zp rfl zu rfl (yg qM (zU hg0) hw0) ?_
        refine zd (ze 14 rfl rfl (zV (i := j) rfl zA zN rfl rfl jR qI ?_))
        refine zd (zy 15 rfl (yS (j) zu rfl jR rfl qL qO qP qI ?_))
        refine zw rfl qD ?_
        refine ze 16 rfl rfl (zV (i := j - 1) rfl zA zN rfl rfl jR qI ?_)
        refine zd (zy 17 rfl (yS (j - 1) zu rfl jR rfl qL qO qP qI ?_))
        refine zw rfl qD ?_
        refine y6 qk ?_
        refine y4 _ ((sw ws (j) (j - 1)).map iC) qP (by rw [sw, List.map_set, List.map_set]) ?_
        refine zI (z4 (z8 (z5 rfl rfl (zH rfl rfl rfl jO ?_))))
        exact z9 rfl rfl (z7 (z4 (zM ⟨j + 1, sw ws j (j - 1), ⟨by omega, hP4.trans (.sw jO jO jO jO jO), hS4.pi (.sw (b := ib) jO jO jO jO jO)⟩, rfl, rfl, rfl, rfl⟩ qI (.c 12 rfl <| za _) (.c 0 rfl <| .c 1 rfl <| .c 2 rfl <| .c 3 rfl <| .c 9 rfl <| .c 10 rfl <| za _) qD qD qF)))
      ·try simp only [dq] at h109
       exact zR (zq (zq (zS (z4 (zK ⟨ws, ⟨hP4, hS4⟩, rfl, rfl, rfl⟩ (za _) (.c 0 rfl <| .c 1 rfl <| .c 2 rfl <| .c 3 rfl <| .c 9 rfl <| .c 10 rfl <| za _) qD qD qF)))))
     ·try simp only [dq] at h104
      exact zm (z4 (zK ⟨ys, ⟨hP2, hS2⟩, rfl, rfl, rfl⟩ (za _) (.c 0 rfl <| .c 1 rfl <| .c 2 rfl <| .c 3 rfl <| .c 9 rfl <| .c 10 rfl <| za _) qD qD qF))
    rintro _ _ _ ⟨ws, ⟨hP3, hS3⟩, rfl, rfl, rfl⟩
    refine zF qA qA qA ?_
    refine zI (z4 (z8 (z5 rfl rfl (zH rfl rfl rfl jO ?_))))
    exact z9 rfl rfl (z7 (z4 (zM ⟨i, c + 1, ws, ⟨by omega, hP3, hS3⟩, rfl, rfl, rfl, rfl⟩ qI (.c 9 rfl <| .c 10 rfl <| za _) (.c 0 rfl <| .c 1 rfl <| .c 2 rfl <| .c 3 rfl <| za _) qD qD qF)))
 ·try simp only [dq] at h16
  exact zR (zq (zq (zS (z4 (z6 (z8 (z9 rfl rfl (z7 (z4 (zi (zz rfl rfl ⟨zs, false, rfl, hP, fun e => (by cases e), rfl, rfl⟩ qD qF)))))))))))
theorem parte_spec {g pb po len cap : Nat} {cf : ID32 → ID32 → Int} {xs : List ID32} (hO : SWO cf) (hI : ∀ x : ID32, ¬ cf x x < 0) (hc : ∀ x y : ID32, Spec Tryz.prog g [.agg (iC x).toArray, .agg (iC y).toArray] [] [] (fun u D' M' => u = .int .i64 (cf x y) ∧ D' = [] ∧ M' = [])) {ia ib pv : Nat} (hpv : ia ≤ pv ∧ pv < ib) (hib : ib ≤ len) (hb : len ≤ 60000) : Spec Tryz.prog 151 [.slice (some ⟨pb, po, none⟩) len cap, .int .i64 (ia : Int), .int .i64 (ib : Int), .int .i64 (pv : Int), fnV g []] [] [own 32 38 (some ⟨pb, po, none⟩) len cap ((xs).map iC)] (fun v D' M' => ∃ (ys : List ID32) (m : Nat), v = .int .i64 (m : Int) ∧ (PI ia ib xs ys) ∧ (ia < m ∧ m ≤ ib) ∧ (gd ys ia = gd xs pv) ∧ (∀ p, ia ≤ p → p < m → ¬ cf (gd ys ia) (gd ys p) < 0) ∧ (∀ q, m ≤ q → q < ib → cf (gd ys ia) (gd ys q) < 0) ∧ D' = [] ∧ M' = [own 32 38 (some ⟨pb, po, none⟩) len cap ((ys).map iC)]) := by
 refine zC (n := 90) Tryz.func151 ?_
 intro σ D M
 refine xi qM (fun hl hcc => ?_)
 rw [List.length_map] at hl
 refine z6 (z8 (z9 rfl rfl (z7 (z4 (z6 ?_)))))
 have hg0 : xs[ia]? = some (gd xs (ia)) := zJ jO
 have hw0 := zT (gd xs (ia))
 have hg1 : xs[pv]? = some (gd xs (pv)) := zJ jO
 have hw1 := zT (gd xs (pv))
 refine yt (clsL [1, 1, 1, 1, 1, 1, 1, 0, 1, 1, 1, 0, 1, 2, 1, 2]) qk ?_
 refine ze 0 rfl rfl (z5 rfl rfl (zd (ze 1 rfl rfl (z5 rfl rfl (zd (ze 2 rfl rfl (z5 rfl rfl (zd (ze 3 rfl rfl (z5 rfl rfl (zd (ze 4 rfl rfl (z5 rfl rfl (zd (ze 5 rfl rfl (z5 rfl rfl (zd (ze 6 rfl rfl (zV (i := pv) rfl zA zN rfl rfl jR qI ?_)))))))))))))))))))
 refine zd (ze 8 rfl rfl (z5 rfl rfl (zd (ze 9 rfl rfl (z5 rfl rfl (zd (ze 10 rfl rfl (zV (i := ia) rfl zA zN rfl rfl jR qI ?_))))))))
 refine zd (y8 (i := 7) rfl rfl rfl rfl qk qk qk qk rfl qD qF ?_)
 refine zp rfl zu rfl (yg qM (zU hg1) hw1) ?_
 refine zd (y8 (i := 11) rfl rfl rfl rfl qk qk qk qk rfl qD qF ?_)
 refine zp rfl zu rfl (yg qM (zU hg0) hw0) ?_
 refine zd (ze 12 rfl rfl (zV (i := ia) rfl zA zN rfl rfl jR qI ?_))
 refine zd (zy 13 rfl (yS (ia) zu rfl jR rfl qL qO qP qI ?_))
 refine zw rfl qD ?_
 refine ze 14 rfl rfl (zV (i := pv) rfl zA zN rfl rfl jR qI ?_)
 refine zd (zy 15 rfl (yS (pv) zu rfl jR rfl qL qO qP qI ?_))
 refine zw rfl qD ?_
 refine y6 qk ?_
 refine y4 _ ((sw xs (ia) (pv)).map iC) qP (by rw [sw, List.map_set, List.map_set]) ?_
 refine z4 (z6 (z8 (z5 rfl rfl (zH rfl rfl rfl jO ?_))))
 refine z5 rfl rfl (y7 rfl rfl rfl jO ?_)
 refine zv (t := 30) (u := .int .i64 ((ib - 1 : Nat) : Int)) rfl (congrArg (Value.int .i64) jO) ?_
 refine z9 rfl rfl (z9 rfl rfl (z7 (z4 (z6 (zr (zX (fun K' D' M' μ => ∃ (i0 j0 : Nat) (zs : List ID32), (PI ia ib xs zs ∧ PeI cf zs ia ib i0 j0 ∧ gd zs ia = gd xs pv) ∧ K' = [(11, .int .i64 (i0 : Int)), (12, .int .i64 (j0 : Int))] ∧ D' = [] ∧ M' = [own 32 38 (some ⟨pb, po, none⟩) len cap ((zs).map iC)] ∧ μ = j0 + 1 - i0) (.c 0 rfl <| .c 1 rfl <| .c 4 rfl <| za _) (⟨ia + 1, ib - 1, sw xs ia pv, ⟨.sw jO jO jO jO jO, .start jO, (by rw [gd_sw jO jO]; split <;> first | (rename_i e; rw [e]; done) | rw [if_pos rfl])⟩, rfl, rfl, rfl, rfl⟩) (.c 11 rfl <| .c 12 rfl <| za _) qD qS ?_))))))
 rintro K1 D1 M1 m1 ⟨i0, j0, zs, ⟨hP, hE, he⟩, rfl, rfl, rfl, rfl⟩
 refine zF qA qA qA ?_
 have hzl := hP.len
 have hr := hE.rng
 refine zr (z6 (yu (fun K' D' M' => ∃ (i : Nat), (i0 ≤ i ∧ PeI cf zs ia ib i j0 ∧ (i ≤ j0 → cf (gd zs ia) (gd zs i) < 0)) ∧ K' = [(11, .int .i64 (i : Int))] ∧ D' = [] ∧ M' = [own 32 38 (some ⟨pb, po, none⟩) len cap ((zs).map iC)]) (M0 := [own 32 38 (some ⟨pb, po, none⟩) len cap ((zs).map iC)]) (.c 0 rfl <| .c 1 rfl <| .c 4 rfl <| .c 12 rfl <| za _) qS ?_ ?_))
 ·skip
  refine zr (zX (fun K' D' M' μ => ∃ (i : Nat), (i0 ≤ i ∧ PeI cf zs ia ib i j0) ∧ K' = [(11, .int .i64 (i : Int))] ∧ D' = [] ∧ M' = [own 32 38 (some ⟨pb, po, none⟩) len cap ((zs).map iC)] ∧ μ = j0 + 1 - i) (.c 0 rfl <| .c 1 rfl <| .c 4 rfl <| .c 12 rfl <| za _) (⟨i0, ⟨Nat.le_refl _, hE⟩, rfl, rfl, rfl, rfl⟩) (.c 11 rfl <| za _) qD qS ?_)
  rintro K1 D1 M1 m1 ⟨i, ⟨hi0, hE⟩, rfl, rfl, rfl, rfl⟩
  refine zF qA qA qA ?_
  have hr := hE.rng
  refine z6 (z6 ?_)
  rcases Nat.lt_or_ge j0 i with hji | hji
  ·skip
   refine yC qk qk (z5 rfl rfl (z5 rfl rfl (L.leI rfl rfl rfl (z5 rfl rfl (zv (t := 34) rfl (show _ = Value.bool false from congrArg Value.bool (decide_eq_false jO)) ?_)))))
   refine zg (dj := 34) (c := false) rfl rfl rfl rfl rfl jD (zg (dj := 34) (c := false) rfl rfl rfl rfl rfl jD (zg (dj := 34) (c := false) rfl rfl rfl rfl rfl jD (zg (dj := 34) (c := false) rfl rfl rfl rfl rfl jD (zg (dj := 34) (c := false) rfl rfl rfl rfl rfl jD (zg (dj := 34) (c := false) rfl rfl rfl rfl rfl jD (zg (dj := 34) (c := false) rfl rfl rfl rfl rfl jD (zg (dj := 34) (c := false) rfl rfl rfl rfl rfl jD (zg (dj := 34) (c := false) rfl rfl rfl rfl rfl jD (zg (dj := 34) (c := false) rfl rfl rfl rfl rfl jD (zg (dj := 34) (c := false) rfl rfl rfl rfl rfl jD (zg (dj := 34) (c := false) rfl rfl rfl rfl rfl jD (y5 rfl rfl rfl (yA (z4 (ym rfl rfl ?_)))))))))))))))
   exact zR (zq (zq (zS (z4 (zK ⟨i, ⟨hi0, hE, fun e => absurd e jO⟩, rfl, rfl, rfl⟩ (.c 11 rfl <| za _) (.c 0 rfl <| .c 1 rfl <| .c 4 rfl <| .c 12 rfl <| za _) qD qD qF)))))
  ·skip
   have hg0 : zs[ia]? = some (gd zs (ia)) := zJ jO
   have hw0 := zT (gd zs (ia))
   have hg1 : zs[i]? = some (gd zs (i)) := zJ jO
   have hw1 := zT (gd zs (i))
   refine yC qk qk (z5 rfl rfl (z5 rfl rfl (L.leI rfl rfl rfl (z5 rfl rfl (zv (t := 34) rfl (show _ = Value.bool true from congrArg Value.bool (decide_eq_true jO)) ?_)))))
   refine zf (dj := 34) rfl rfl rfl (z5 rfl rfl (zf (dj := 34) rfl rfl rfl (z5 rfl rfl (zf (dj := 34) rfl rfl rfl (z5 rfl rfl (zf (dj := 34) rfl rfl rfl (zV (i := ia) rfl zA zN rfl rfl jR qI ?_)))))))
   refine zf (dj := 34) rfl rfl rfl (zp rfl zu rfl (yg qM (zU hg0) hw0) ?_)
   refine zf (dj := 34) rfl rfl rfl (z5 rfl rfl (zf (dj := 34) rfl rfl rfl (z5 rfl rfl (zf (dj := 34) rfl rfl rfl (zV (i := i) rfl zA zN rfl rfl jR qI ?_)))))
   refine zf (dj := 34) rfl rfl rfl (zp rfl zu rfl (yg qM (zU hg1) hw1) ?_)
   refine zf (dj := 34) rfl rfl rfl (xv rfl rfl (ev2 rfl rfl) qD qS (hc (gd zs ia) (gd zs i)) jF ?_)
   refine zf (dj := 34) rfl rfl rfl (zQ rfl rfl rfl (zf (dj := 34) rfl rfl rfl (yX rfl rfl (ye rfl rfl rfl (yA (z4 (zo rfl (fun h47 => ?_) (fun h47 => ?_))))))))
   ·try simp only [dq] at h47
    refine zm (z4 (zr (z8 (z5 rfl rfl (zH rfl rfl rfl jO ?_)))))
    exact z9 rfl rfl (z7 (zI (z4 (zM ⟨i + 1, ⟨by omega, hE.up jO h47⟩, rfl, rfl, rfl, rfl⟩ qI (.c 11 rfl <| za _) (.c 0 rfl <| .c 1 rfl <| .c 4 rfl <| .c 12 rfl <| za _) qD qD qF))))
   ·try simp only [dq] at h47
    exact zR (zq (zq (zS (z4 (zK ⟨i, ⟨hi0, hE, fun _ => h47⟩, rfl, rfl, rfl⟩ (.c 11 rfl <| za _) (.c 0 rfl <| .c 1 rfl <| .c 4 rfl <| .c 12 rfl <| za _) qD qD qF)))))
 rintro _ _ _ ⟨i, ⟨hi0, hE, hx⟩, rfl, rfl, rfl⟩
 refine zF qA qA qA ?_
 have hr := hE.rng
 refine z4 (z6 (yu (fun K' D' M' => ∃ (j : Nat), (j ≤ j0 ∧ PeI cf zs ia ib i j ∧ (i ≤ j → cf (gd zs ia) (gd zs i) < 0) ∧ (i ≤ j → ¬ cf (gd zs ia) (gd zs j) < 0)) ∧ K' = [(12, .int .i64 (j : Int))] ∧ D' = [] ∧ M' = [own 32 38 (some ⟨pb, po, none⟩) len cap ((zs).map iC)]) (M0 := [own 32 38 (some ⟨pb, po, none⟩) len cap ((zs).map iC)]) (.c 0 rfl <| .c 1 rfl <| .c 4 rfl <| .c 11 rfl <| za _) qS ?_ ?_))
 ·skip
  refine zr (zX (fun K' D' M' μ => ∃ (j : Nat), (j ≤ j0 ∧ PeI cf zs ia ib i j ∧ (i ≤ j → cf (gd zs ia) (gd zs i) < 0)) ∧ K' = [(12, .int .i64 (j : Int))] ∧ D' = [] ∧ M' = [own 32 38 (some ⟨pb, po, none⟩) len cap ((zs).map iC)] ∧ μ = j + 1 - i) (.c 0 rfl <| .c 1 rfl <| .c 4 rfl <| .c 11 rfl <| za _) (⟨j0, ⟨Nat.le_refl _, hE, hx⟩, rfl, rfl, rfl, rfl⟩) (.c 12 rfl <| za _) qD qS ?_)
  rintro K1 D1 M1 m1 ⟨j, ⟨hj0, hE, hx⟩, rfl, rfl, rfl, rfl⟩
  refine zF qA qA qA ?_
  have hr := hE.rng
  refine z6 (z6 ?_)
  rcases Nat.lt_or_ge j i with hji | hji
  ·skip
   refine yC qk qk (z5 rfl rfl (z5 rfl rfl (L.leI rfl rfl rfl (z5 rfl rfl (zv (t := 53) rfl (show _ = Value.bool false from congrArg Value.bool (decide_eq_false jO)) ?_)))))
   refine zg (dj := 53) (c := false) rfl rfl rfl rfl rfl jD (zg (dj := 53) (c := false) rfl rfl rfl rfl rfl jD (zg (dj := 53) (c := false) rfl rfl rfl rfl rfl jD (zg (dj := 53) (c := false) rfl rfl rfl rfl rfl jD (zg (dj := 53) (c := false) rfl rfl rfl rfl rfl jD (zg (dj := 53) (c := false) rfl rfl rfl rfl rfl jD (zg (dj := 53) (c := false) rfl rfl rfl rfl rfl jD (zg (dj := 53) (c := false) rfl rfl rfl rfl rfl jD (zg (dj := 53) (c := false) rfl rfl rfl rfl rfl jD (zg (dj := 53) (c := false) rfl rfl rfl rfl rfl jD (zg (dj := 53) (c := false) rfl rfl rfl rfl rfl jD (y5 rfl rfl rfl (yA (z4 (ym rfl rfl ?_))))))))))))))
   exact zR (zq (zq (zS (z4 (zK ⟨j, ⟨hj0, hE, hx, fun e => absurd e jO⟩, rfl, rfl, rfl⟩ (.c 12 rfl <| za _) (.c 0 rfl <| .c 1 rfl <| .c 4 rfl <| .c 11 rfl <| za _) qD qD qF)))))
  ·skip
   have hg0 : zs[ia]? = some (gd zs (ia)) := zJ jO
   have hw0 := zT (gd zs (ia))
   have hg1 : zs[j]? = some (gd zs (j)) := zJ jO
   have hw1 := zT (gd zs (j))
   refine yC qk qk (z5 rfl rfl (z5 rfl rfl (L.leI rfl rfl rfl (z5 rfl rfl (zv (t := 53) rfl (show _ = Value.bool true from congrArg Value.bool (decide_eq_true jO)) ?_)))))
   refine zf (dj := 53) rfl rfl rfl (z5 rfl rfl (zf (dj := 53) rfl rfl rfl (z5 rfl rfl (zf (dj := 53) rfl rfl rfl (z5 rfl rfl (zf (dj := 53) rfl rfl rfl (zV (i := ia) rfl zA zN rfl rfl jR qI ?_)))))))
   refine zf (dj := 53) rfl rfl rfl (zp rfl zu rfl (yg qM (zU hg0) hw0) ?_)
   refine zf (dj := 53) rfl rfl rfl (z5 rfl rfl (zf (dj := 53) rfl rfl rfl (z5 rfl rfl (zf (dj := 53) rfl rfl rfl (zV (i := j) rfl zA zN rfl rfl jR qI ?_)))))
   refine zf (dj := 53) rfl rfl rfl (zp rfl zu rfl (yg qM (zU hg1) hw1) ?_)
   refine zf (dj := 53) rfl rfl rfl (xv rfl rfl (ev2 rfl rfl) qD qS (hc (gd zs ia) (gd zs j)) jF ?_)
   refine zf (dj := 53) rfl rfl rfl (zQ rfl rfl rfl (ye rfl rfl rfl (yA (z4 (zo rfl (fun h65 => ?_) (fun h65 => ?_))))))
   ·try simp only [dq] at h65
    refine zm (z4 (zr (z8 (z5 rfl rfl (y7 rfl rfl rfl jO ?_)))))
    refine zv (t := 67) (u := .int .i64 ((j - 1 : Nat) : Int)) rfl (congrArg (Value.int .i64) jO) ?_
    exact z9 rfl rfl (z7 (zI (z4 (zM ⟨j - 1, ⟨by omega, hE.down jO h65, fun _ => hx jO⟩, rfl, rfl, rfl, rfl⟩ qI (.c 12 rfl <| za _) (.c 0 rfl <| .c 1 rfl <| .c 4 rfl <| .c 11 rfl <| za _) qD qD qF))))
   ·try simp only [dq] at h65
    exact zR (zq (zq (zS (z4 (zK ⟨j, ⟨hj0, hE, hx, fun _ => h65⟩, rfl, rfl, rfl⟩ (.c 12 rfl <| za _) (.c 0 rfl <| .c 1 rfl <| .c 4 rfl <| .c 11 rfl <| za _) qD qD qF)))))
 rintro _ _ _ ⟨j, ⟨hj0, hE, hx, hy⟩, rfl, rfl, rfl⟩
 refine zF qA qA qA ?_
 have hr := hE.rng
 refine z4 (z6 (z6 (z8 (z5 rfl rfl (z5 rfl rfl (yB rfl rfl rfl (z7 (z4 (zo rfl (fun h70 => ?_) (fun h70 => ?_))))))))))
 ·try simp only [dq] at h70
  refine zR (zq (T.blkY rfl ?_))
  exact zq (zS (z4 (z6 (z8 (z5 rfl rfl (z9 rfl rfl (z7 (z4 (zi (zz rfl rfl ⟨zs, i, rfl, hP, by omega, he, fun p p1 p2 => (Decidable.byCases (fun q : ia < p => hE.lo p q p2) (fun q => by rw [show p = ia by omega]; exact hI _)), fun q q1 q2 => hE.hi q jO q2, rfl, rfl⟩ qD qF))))))))))
 ·try simp only [dq] at h70
  refine zm (z4 (z6 ?_))
  have hg0 : zs[i]? = some (gd zs (i)) := zJ jO
  have hw0 := zT (gd zs (i))
  have hg1 : zs[j]? = some (gd zs (j)) := zJ jO
  have hw1 := zT (gd zs (j))
  refine yt (clsL [1, 1, 1, 1, 1, 1, 1, 0, 1, 1, 1, 0, 1, 2, 1, 2]) qk ?_
  refine ze 0 rfl rfl (z5 rfl rfl (zd (ze 1 rfl rfl (z5 rfl rfl (zd (ze 2 rfl rfl (z5 rfl rfl (zd (ze 3 rfl rfl (z5 rfl rfl (zd (ze 4 rfl rfl (z5 rfl rfl (zd (ze 5 rfl rfl (z5 rfl rfl (zd (ze 6 rfl rfl (zV (i := j) rfl zA zN rfl rfl jR qI ?_)))))))))))))))))))
  refine zd (ze 8 rfl rfl (z5 rfl rfl (zd (ze 9 rfl rfl (z5 rfl rfl (zd (ze 10 rfl rfl (zV (i := i) rfl zA zN rfl rfl jR qI ?_))))))))
  refine zd (y8 (i := 7) rfl rfl rfl rfl qk qk qk qk rfl qD qF ?_)
  refine zp rfl zu rfl (yg qM (zU hg1) hw1) ?_
  refine zd (y8 (i := 11) rfl rfl rfl rfl qk qk qk qk rfl qD qF ?_)
  refine zp rfl zu rfl (yg qM (zU hg0) hw0) ?_
  refine zd (ze 12 rfl rfl (zV (i := i) rfl zA zN rfl rfl jR qI ?_))
  refine zd (zy 13 rfl (yS (i) zu rfl jR rfl qL qO qP qI ?_))
  refine zw rfl qD ?_
  refine ze 14 rfl rfl (zV (i := j) rfl zA zN rfl rfl jR qI ?_)
  refine zd (zy 15 rfl (yS (j) zu rfl jR rfl qL qO qP qI ?_))
  refine zw rfl qD ?_
  refine y6 qk ?_
  refine y4 _ ((sw zs (i) (j)).map iC) qP (by rw [sw, List.map_set, List.map_set]) ?_
  refine z4 (z6 (z8 (z5 rfl rfl (zH rfl rfl rfl jO ?_))))
  refine z9 rfl rfl (z7 (z4 (z8 (z5 rfl rfl (y7 rfl rfl rfl jO ?_)))))
  refine zv (t := 88) (u := .int .i64 ((j - 1 : Nat) : Int)) rfl (congrArg (Value.int .i64) jO) ?_
  exact z9 rfl rfl (z7 (zI (z4 (zM ⟨i + 1, j - 1, sw zs i j, ⟨hP.trans (.sw jO jO jO jO jO), hE.swap jO jO (hx jO) (hy jO), (by rw [gd_sw jO jO, if_neg jO, if_neg jO]; exact he)⟩, rfl, rfl, rfl, rfl⟩ qI (.c 11 rfl <| .c 12 rfl <| za _) (.c 0 rfl <| .c 1 rfl <| .c 4 rfl <| za _) qD qD qF))))
set_option maxHeartbeats 1600000 in
theorem parti_spec {g pb po len cap : Nat} {cf : ID32 → ID32 → Int} {xs : List ID32} (hO : SWO cf) (hI : ∀ x : ID32, ¬ cf x x < 0) (hc : ∀ x y : ID32, Spec Tryz.prog g [.agg (iC x).toArray, .agg (iC y).toArray] [] [] (fun u D' M' => u = .int .i64 (cf x y) ∧ D' = [] ∧ M' = [])) {ia ib pv : Nat} (hpv : ia ≤ pv ∧ pv < ib) (hib : ib ≤ len) (hb : len ≤ 60000) : Spec Tryz.prog 152 [.slice (some ⟨pb, po, none⟩) len cap, .int .i64 (ia : Int), .int .i64 (ib : Int), .int .i64 (pv : Int), fnV g []] [] [own 32 38 (some ⟨pb, po, none⟩) len cap ((xs).map iC)] (fun v D' M' => ∃ (ys : List ID32) (m : Nat) (w : Bool), v = .tuple #[.int .i64 (m : Int), .bool w] ∧ (PI ia ib xs ys) ∧ (ia ≤ m ∧ m < ib) ∧ (Part cf ys ia m ib) ∧ D' = [] ∧ M' = [own 32 38 (some ⟨pb, po, none⟩) len cap ((ys).map iC)]) := by
 refine zC (n := 178) Tryz.func152 ?_
 intro σ D M
 refine xi qM (fun hl hcc => ?_)
 rw [List.length_map] at hl
 refine z6 (z8 (z9 rfl rfl (z9 rfl rfl (z7 (z4 (z6 ?_))))))
 have hg0 : xs[ia]? = some (gd xs (ia)) := zJ jO
 have hw0 := zT (gd xs (ia))
 have hg1 : xs[pv]? = some (gd xs (pv)) := zJ jO
 have hw1 := zT (gd xs (pv))
 refine yt (clsL [1, 1, 1, 1, 1, 1, 1, 0, 1, 1, 1, 0, 1, 2, 1, 2]) qk ?_
 refine ze 0 rfl rfl (z5 rfl rfl (zd (ze 1 rfl rfl (z5 rfl rfl (zd (ze 2 rfl rfl (z5 rfl rfl (zd (ze 3 rfl rfl (z5 rfl rfl (zd (ze 4 rfl rfl (z5 rfl rfl (zd (ze 5 rfl rfl (z5 rfl rfl (zd (ze 6 rfl rfl (zV (i := pv) rfl zA zN rfl rfl jR qI ?_)))))))))))))))))))
 refine zd (ze 8 rfl rfl (z5 rfl rfl (zd (ze 9 rfl rfl (z5 rfl rfl (zd (ze 10 rfl rfl (zV (i := ia) rfl zA zN rfl rfl jR qI ?_))))))))
 refine zd (y8 (i := 7) rfl rfl rfl rfl qk qk qk qk rfl qD qF ?_)
 refine zp rfl zu rfl (yg qM (zU hg1) hw1) ?_
 refine zd (y8 (i := 11) rfl rfl rfl rfl qk qk qk qk rfl qD qF ?_)
 refine zp rfl zu rfl (yg qM (zU hg0) hw0) ?_
 refine zd (ze 12 rfl rfl (zV (i := ia) rfl zA zN rfl rfl jR qI ?_))
 refine zd (zy 13 rfl (yS (ia) zu rfl jR rfl qL qO qP qI ?_))
 refine zw rfl qD ?_
 refine ze 14 rfl rfl (zV (i := pv) rfl zA zN rfl rfl jR qI ?_)
 refine zd (zy 15 rfl (yS (pv) zu rfl jR rfl qL qO qP qI ?_))
 refine zw rfl qD ?_
 refine y6 qk ?_
 refine y4 _ ((sw xs (ia) (pv)).map iC) qP (by rw [sw, List.map_set, List.map_set]) ?_
 obtain ⟨zs, hzs⟩ : ∃ zs, zs = sw xs ia pv := ⟨_, rfl⟩
 have hP : PI ia ib xs zs := by rw [hzs]; exact .sw jO jO jO jO jO
 have hzl := hP.len
 rw [← hzs]
 refine z4 (z6 (z8 (z5 rfl rfl (zH rfl rfl rfl jO ?_))))
 refine z5 rfl rfl (y7 rfl rfl rfl jO ?_)
 refine zv (t := 31) (u := .int .i64 ((ib - 1 : Nat) : Int)) rfl (congrArg (Value.int .i64) jO) ?_
 refine z9 rfl rfl (z9 rfl rfl (z7 ?_))
 obtain ⟨j1, hj⟩ : ∃ j, j = ib - 1 := ⟨_, rfl⟩
 rw [← hj]
 have hE : PtI cf zs ia ib (ia + 1) j1 := by rw [hj]; exact .start jO
 refine z4 (z6 (yu (fun K' D' M' => ∃ (i : Nat), (ia + 1 ≤ i ∧ PtI cf zs ia ib i j1 ∧ (i ≤ j1 → ¬ cf (gd zs i) (gd zs ia) < 0)) ∧ K' = [(12, .int .i64 (i : Int))] ∧ D' = [] ∧ M' = [own 32 38 (some ⟨pb, po, none⟩) len cap ((zs).map iC)]) (M0 := [own 32 38 (some ⟨pb, po, none⟩) len cap ((zs).map iC)]) (.c 0 rfl <| .c 1 rfl <| .c 4 rfl <| .c 13 rfl <| za _) qS ?_ ?_))
 ·skip
  refine zr (zX (fun K' D' M' μ => ∃ (i : Nat), (ia + 1 ≤ i ∧ PtI cf zs ia ib i j1) ∧ K' = [(12, .int .i64 (i : Int))] ∧ D' = [] ∧ M' = [own 32 38 (some ⟨pb, po, none⟩) len cap ((zs).map iC)] ∧ μ = j1 + 1 - i) (.c 0 rfl <| .c 1 rfl <| .c 4 rfl <| .c 13 rfl <| za _) (⟨ia + 1, ⟨Nat.le_refl _, hE⟩, rfl, rfl, rfl, rfl⟩) (.c 12 rfl <| za _) qD qS ?_)
  rintro K1 D1 M1 m1 ⟨i, ⟨hi0, hE⟩, rfl, rfl, rfl, rfl⟩
  refine zF qA qA qA ?_
  have hr := hE.rng
  refine z6 (z6 ?_)
  rcases Nat.lt_or_ge j1 i with hji | hji
  ·skip
   refine yC qk qk (z5 rfl rfl (z5 rfl rfl (L.leI rfl rfl rfl (z5 rfl rfl (zv (t := 35) rfl (show _ = Value.bool false from congrArg Value.bool (decide_eq_false jO)) ?_)))))
   refine zg (dj := 35) (c := false) rfl rfl rfl rfl rfl jD (zg (dj := 35) (c := false) rfl rfl rfl rfl rfl jD (zg (dj := 35) (c := false) rfl rfl rfl rfl rfl jD (zg (dj := 35) (c := false) rfl rfl rfl rfl rfl jD (zg (dj := 35) (c := false) rfl rfl rfl rfl rfl jD (zg (dj := 35) (c := false) rfl rfl rfl rfl rfl jD (zg (dj := 35) (c := false) rfl rfl rfl rfl rfl jD (zg (dj := 35) (c := false) rfl rfl rfl rfl rfl jD (zg (dj := 35) (c := false) rfl rfl rfl rfl rfl jD (zg (dj := 35) (c := false) rfl rfl rfl rfl rfl jD (zg (dj := 35) (c := false) rfl rfl rfl rfl rfl jD (y5 rfl rfl rfl (yA (z4 (ym rfl rfl ?_))))))))))))))
   exact zR (zq (zq (zS (z4 (zK ⟨i, ⟨hi0, hE, fun e => absurd e jO⟩, rfl, rfl, rfl⟩ (.c 12 rfl <| za _) (.c 0 rfl <| .c 1 rfl <| .c 4 rfl <| .c 13 rfl <| za _) qD qD qF)))))
  ·skip
   have hg0 : zs[i]? = some (gd zs (i)) := zJ jO
   have hw0 := zT (gd zs (i))
   have hg1 : zs[ia]? = some (gd zs (ia)) := zJ jO
   have hw1 := zT (gd zs (ia))
   refine yC qk qk (z5 rfl rfl (z5 rfl rfl (L.leI rfl rfl rfl (z5 rfl rfl (zv (t := 35) rfl (show _ = Value.bool true from congrArg Value.bool (decide_eq_true jO)) ?_)))))
   refine zf (dj := 35) rfl rfl rfl (z5 rfl rfl (zf (dj := 35) rfl rfl rfl (z5 rfl rfl (zf (dj := 35) rfl rfl rfl (z5 rfl rfl (zf (dj := 35) rfl rfl rfl (zV (i := i) rfl zA zN rfl rfl jR qI ?_)))))))
   refine zf (dj := 35) rfl rfl rfl (zp rfl zu rfl (yg qM (zU hg0) hw0) ?_)
   refine zf (dj := 35) rfl rfl rfl (z5 rfl rfl (zf (dj := 35) rfl rfl rfl (z5 rfl rfl (zf (dj := 35) rfl rfl rfl (zV (i := ia) rfl zA zN rfl rfl jR qI ?_)))))
   refine zf (dj := 35) rfl rfl rfl (zp rfl zu rfl (yg qM (zU hg1) hw1) ?_)
   refine zf (dj := 35) rfl rfl rfl (xv rfl rfl (ev2 rfl rfl) qD qS (hc (gd zs i) (gd zs ia)) jF ?_)
   refine zf (dj := 35) rfl rfl rfl (zQ rfl rfl rfl (ye rfl rfl rfl (yA (z4 (zo rfl (fun h47 => ?_) (fun h47 => ?_))))))
   ·try simp only [dq] at h47
    refine zm (z4 (zr (z8 (z5 rfl rfl (zH rfl rfl rfl jO ?_)))))
    exact z9 rfl rfl (z7 (zI (z4 (zM ⟨i + 1, ⟨by omega, hE.up jO h47⟩, rfl, rfl, rfl, rfl⟩ qI (.c 12 rfl <| za _) (.c 0 rfl <| .c 1 rfl <| .c 4 rfl <| .c 13 rfl <| za _) qD qD qF))))
   ·try simp only [dq] at h47
    exact zR (zq (zq (zS (z4 (zK ⟨i, ⟨hi0, hE, fun _ => h47⟩, rfl, rfl, rfl⟩ (.c 12 rfl <| za _) (.c 0 rfl <| .c 1 rfl <| .c 4 rfl <| .c 13 rfl <| za _) qD qD qF)))))
 rintro _ _ _ ⟨i, ⟨hi0, hE, hx⟩, rfl, rfl, rfl⟩
 refine zF qA qA qA ?_
 have hr := hE.rng
 refine z4 (z6 (yu (fun K' D' M' => ∃ (j : Nat), (j ≤ j1 ∧ PtI cf zs ia ib i j ∧ (i ≤ j → ¬ cf (gd zs i) (gd zs ia) < 0) ∧ (i ≤ j → cf (gd zs j) (gd zs ia) < 0)) ∧ K' = [(13, .int .i64 (j : Int))] ∧ D' = [] ∧ M' = [own 32 38 (some ⟨pb, po, none⟩) len cap ((zs).map iC)]) (M0 := [own 32 38 (some ⟨pb, po, none⟩) len cap ((zs).map iC)]) (.c 0 rfl <| .c 1 rfl <| .c 4 rfl <| .c 12 rfl <| za _) qS ?_ ?_))
 ·skip
  refine zr (zX (fun K' D' M' μ => ∃ (j : Nat), (j ≤ j1 ∧ PtI cf zs ia ib i j ∧ (i ≤ j → ¬ cf (gd zs i) (gd zs ia) < 0)) ∧ K' = [(13, .int .i64 (j : Int))] ∧ D' = [] ∧ M' = [own 32 38 (some ⟨pb, po, none⟩) len cap ((zs).map iC)] ∧ μ = j + 1 - i) (.c 0 rfl <| .c 1 rfl <| .c 4 rfl <| .c 12 rfl <| za _) (⟨j1, ⟨Nat.le_refl _, hE, hx⟩, rfl, rfl, rfl, rfl⟩) (.c 13 rfl <| za _) qD qS ?_)
  rintro K1 D1 M1 m1 ⟨j, ⟨hj0, hE, hx⟩, rfl, rfl, rfl, rfl⟩
  refine zF qA qA qA ?_
  have hr := hE.rng
  refine z6 (z6 ?_)
  rcases Nat.lt_or_ge j i with hji | hji
  ·skip
   refine yC qk qk (z5 rfl rfl (z5 rfl rfl (L.leI rfl rfl rfl (z5 rfl rfl (zv (t := 53) rfl (show _ = Value.bool false from congrArg Value.bool (decide_eq_false jO)) ?_)))))
   refine zg (dj := 53) (c := false) rfl rfl rfl rfl rfl jD (zg (dj := 53) (c := false) rfl rfl rfl rfl rfl jD (zg (dj := 53) (c := false) rfl rfl rfl rfl rfl jD (zg (dj := 53) (c := false) rfl rfl rfl rfl rfl jD (zg (dj := 53) (c := false) rfl rfl rfl rfl rfl jD (zg (dj := 53) (c := false) rfl rfl rfl rfl rfl jD (zg (dj := 53) (c := false) rfl rfl rfl rfl rfl jD (zg (dj := 53) (c := false) rfl rfl rfl rfl rfl jD (zg (dj := 53) (c := false) rfl rfl rfl rfl rfl jD (zg (dj := 53) (c := false) rfl rfl rfl rfl rfl jD (zg (dj := 53) (c := false) rfl rfl rfl rfl rfl jD (zg (dj := 53) (c := false) rfl rfl rfl rfl rfl jD (y5 rfl rfl rfl (yA (z4 (ym rfl rfl ?_)))))))))))))))
   exact zR (zq (zq (zS (z4 (zK ⟨j, ⟨hj0, hE, hx, fun e => absurd e jO⟩, rfl, rfl, rfl⟩ (.c 13 rfl <| za _) (.c 0 rfl <| .c 1 rfl <| .c 4 rfl <| .c 12 rfl <| za _) qD qD qF)))))
  ·skip
   have hg0 : zs[j]? = some (gd zs (j)) := zJ jO
   have hw0 := zT (gd zs (j))
   have hg1 : zs[ia]? = some (gd zs (ia)) := zJ jO
   have hw1 := zT (gd zs (ia))
   refine yC qk qk (z5 rfl rfl (z5 rfl rfl (L.leI rfl rfl rfl (z5 rfl rfl (zv (t := 53) rfl (show _ = Value.bool true from congrArg Value.bool (decide_eq_true jO)) ?_)))))
   refine zf (dj := 53) rfl rfl rfl (z5 rfl rfl (zf (dj := 53) rfl rfl rfl (z5 rfl rfl (zf (dj := 53) rfl rfl rfl (z5 rfl rfl (zf (dj := 53) rfl rfl rfl (zV (i := j) rfl zA zN rfl rfl jR qI ?_)))))))
   refine zf (dj := 53) rfl rfl rfl (zp rfl zu rfl (yg qM (zU hg0) hw0) ?_)
   refine zf (dj := 53) rfl rfl rfl (z5 rfl rfl (zf (dj := 53) rfl rfl rfl (z5 rfl rfl (zf (dj := 53) rfl rfl rfl (zV (i := ia) rfl zA zN rfl rfl jR qI ?_)))))
   refine zf (dj := 53) rfl rfl rfl (zp rfl zu rfl (yg qM (zU hg1) hw1) ?_)
   refine zf (dj := 53) rfl rfl rfl (xv rfl rfl (ev2 rfl rfl) qD qS (hc (gd zs j) (gd zs ia)) jF ?_)
   refine zf (dj := 53) rfl rfl rfl (zQ rfl rfl rfl (zf (dj := 53) rfl rfl rfl (yX rfl rfl (ye rfl rfl rfl (yA (z4 (zo rfl (fun h66 => ?_) (fun h66 => ?_))))))))
   ·try simp only [dq] at h66
    refine zm (z4 (zr (z8 (z5 rfl rfl (y7 rfl rfl rfl jO ?_)))))
    refine zv (t := 68) (u := .int .i64 ((j - 1 : Nat) : Int)) rfl (congrArg (Value.int .i64) jO) ?_
    exact z9 rfl rfl (z7 (zI (z4 (zM ⟨j - 1, ⟨by omega, hE.down jO h66, fun _ => hx jO⟩, rfl, rfl, rfl, rfl⟩ qI (.c 13 rfl <| za _) (.c 0 rfl <| .c 1 rfl <| .c 4 rfl <| .c 12 rfl <| za _) qD qD qF))))
   ·try simp only [dq] at h66
    exact zR (zq (zq (zS (z4 (zK ⟨j, ⟨hj0, hE, hx, fun _ => h66⟩, rfl, rfl, rfl⟩ (.c 13 rfl <| za _) (.c 0 rfl <| .c 1 rfl <| .c 4 rfl <| .c 12 rfl <| za _) qD qD qF)))))
 rintro _ _ _ ⟨j, ⟨hj0, hE, hx, hy⟩, rfl, rfl, rfl⟩
 refine zF qA qA qA ?_
 have hr := hE.rng
 refine z4 (z6 (z6 (z8 (z5 rfl rfl (z5 rfl rfl (yB rfl rfl rfl (z7 (z4 (zo rfl (fun h71 => ?_) (fun h71 => ?_))))))))))
 ·try simp only [dq] at h71
  refine z6 ?_
  have hg0 : zs[j]? = some (gd zs (j)) := zJ jO
  have hw0 := zT (gd zs (j))
  have hg1 : zs[ia]? = some (gd zs (ia)) := zJ jO
  have hw1 := zT (gd zs (ia))
  refine yt (clsL [1, 1, 1, 1, 1, 1, 1, 0, 1, 1, 1, 0, 1, 2, 1, 2]) qk ?_
  refine ze 0 rfl rfl (z5 rfl rfl (zd (ze 1 rfl rfl (z5 rfl rfl (zd (ze 2 rfl rfl (z5 rfl rfl (zd (ze 3 rfl rfl (z5 rfl rfl (zd (ze 4 rfl rfl (z5 rfl rfl (zd (ze 5 rfl rfl (z5 rfl rfl (zd (ze 6 rfl rfl (zV (i := ia) rfl zA zN rfl rfl jR qI ?_)))))))))))))))))))
  refine zd (ze 8 rfl rfl (z5 rfl rfl (zd (ze 9 rfl rfl (z5 rfl rfl (zd (ze 10 rfl rfl (zV (i := j) rfl zA zN rfl rfl jR qI ?_))))))))
  refine zd (y8 (i := 7) rfl rfl rfl rfl qk qk qk qk rfl qD qF ?_)
  refine zp rfl zu rfl (yg qM (zU hg1) hw1) ?_
  refine zd (y8 (i := 11) rfl rfl rfl rfl qk qk qk qk rfl qD qF ?_)
  refine zp rfl zu rfl (yg qM (zU hg0) hw0) ?_
  refine zd (ze 12 rfl rfl (zV (i := j) rfl zA zN rfl rfl jR qI ?_))
  refine zd (zy 13 rfl (yS (j) zu rfl jR rfl qL qO qP qI ?_))
  refine zw rfl qD ?_
  refine ze 14 rfl rfl (zV (i := ia) rfl zA zN rfl rfl jR qI ?_)
  refine zd (zy 15 rfl (yS (ia) zu rfl jR rfl qL qO qP qI ?_))
  refine zw rfl qD ?_
  refine y6 qk ?_
  refine y4 _ ((sw zs (j) (ia)).map iC) qP (by rw [sw, List.map_set, List.map_set]) ?_
  obtain ⟨hp1, hp2, hp3⟩ := hE.end' hO jO jO
  exact z4 (z6 (z8 (z5 rfl rfl (z9 rfl rfl (z9 rfl rfl (z7 (z4 (zi (zD (xe rfl rfl rfl ⟨sw zs j ia, j, _, rfl, hP.trans (.sw jO jO jO jO jO), ⟨hp2, hp3⟩, hp1, rfl, rfl⟩ qD qF))))))))))
 ·try simp only [dq] at h71
  refine zm (z4 (z6 ?_))
  have hg0 : zs[i]? = some (gd zs (i)) := zJ jO
  have hw0 := zT (gd zs (i))
  have hg1 : zs[j]? = some (gd zs (j)) := zJ jO
  have hw1 := zT (gd zs (j))
  refine yt (clsL [1, 1, 1, 1, 1, 1, 1, 0, 1, 1, 1, 0, 1, 2, 1, 2]) qk ?_
  refine ze 0 rfl rfl (z5 rfl rfl (zd (ze 1 rfl rfl (z5 rfl rfl (zd (ze 2 rfl rfl (z5 rfl rfl (zd (ze 3 rfl rfl (z5 rfl rfl (zd (ze 4 rfl rfl (z5 rfl rfl (zd (ze 5 rfl rfl (z5 rfl rfl (zd (ze 6 rfl rfl (zV (i := j) rfl zA zN rfl rfl jR qI ?_)))))))))))))))))))
  refine zd (ze 8 rfl rfl (z5 rfl rfl (zd (ze 9 rfl rfl (z5 rfl rfl (zd (ze 10 rfl rfl (zV (i := i) rfl zA zN rfl rfl jR qI ?_))))))))
  refine zd (y8 (i := 7) rfl rfl rfl rfl qk qk qk qk rfl qD qF ?_)
  refine zp rfl zu rfl (yg qM (zU hg1) hw1) ?_
  refine zd (y8 (i := 11) rfl rfl rfl rfl qk qk qk qk rfl qD qF ?_)
  refine zp rfl zu rfl (yg qM (zU hg0) hw0) ?_
  refine zd (ze 12 rfl rfl (zV (i := i) rfl zA zN rfl rfl jR qI ?_))
  refine zd (zy 13 rfl (yS (i) zu rfl jR rfl qL qO qP qI ?_))
  refine zw rfl qD ?_
  refine ze 14 rfl rfl (zV (i := j) rfl zA zN rfl rfl jR qI ?_)
  refine zd (zy 15 rfl (yS (j) zu rfl jR rfl qL qO qP qI ?_))
  refine zw rfl qD ?_
  refine y6 qk ?_
  refine y4 _ ((sw zs (i) (j)).map iC) qP (by rw [sw, List.map_set, List.map_set]) ?_
  refine z4 (z6 (z8 (z5 rfl rfl (zH rfl rfl rfl jO ?_))))
  refine z9 rfl rfl (z7 (z4 (z6 (z8 (z5 rfl rfl (y7 rfl rfl rfl jO ?_))))))
  refine zv (t := 104) (u := .int .i64 ((j - 1 : Nat) : Int)) rfl (congrArg (Value.int .i64) jO) ?_
  refine z9 rfl rfl (z7 (z4 (z6 (zr (zX (fun K' D' M' μ => ∃ (i0 j0 : Nat) (zs : List ID32), (PI ia ib xs zs ∧ PtI cf zs ia ib i0 j0) ∧ K' = [(12, .int .i64 (i0 : Int)), (13, .int .i64 (j0 : Int))] ∧ D' = [] ∧ M' = [own 32 38 (some ⟨pb, po, none⟩) len cap ((zs).map iC)] ∧ μ = j0 + 1 - i0) (.c 0 rfl <| .c 1 rfl <| .c 4 rfl <| za _) (⟨i + 1, j - 1, sw zs i j, ⟨hP.trans (.sw jO jO jO jO jO), hE.swap jO jO (hx jO) (hy jO)⟩, rfl, rfl, rfl, rfl⟩) (.c 12 rfl <| .c 13 rfl <| za _) qD qS ?_)))))
  rintro K1 D1 M1 m1 ⟨i0, j0, zs, ⟨hP, hE⟩, rfl, rfl, rfl, rfl⟩
  refine zF qA qA qA ?_
  have hzl := hP.len
  have hr := hE.rng
  refine zr (z6 (yu (fun K' D' M' => ∃ (i : Nat), (i0 ≤ i ∧ PtI cf zs ia ib i j0 ∧ (i ≤ j0 → ¬ cf (gd zs i) (gd zs ia) < 0)) ∧ K' = [(12, .int .i64 (i : Int))] ∧ D' = [] ∧ M' = [own 32 38 (some ⟨pb, po, none⟩) len cap ((zs).map iC)]) (M0 := [own 32 38 (some ⟨pb, po, none⟩) len cap ((zs).map iC)]) (.c 0 rfl <| .c 1 rfl <| .c 4 rfl <| .c 13 rfl <| za _) qS ?_ ?_))
  ·skip
   refine zr (zX (fun K' D' M' μ => ∃ (i : Nat), (i0 ≤ i ∧ PtI cf zs ia ib i j0) ∧ K' = [(12, .int .i64 (i : Int))] ∧ D' = [] ∧ M' = [own 32 38 (some ⟨pb, po, none⟩) len cap ((zs).map iC)] ∧ μ = j0 + 1 - i) (.c 0 rfl <| .c 1 rfl <| .c 4 rfl <| .c 13 rfl <| za _) (⟨i0, ⟨Nat.le_refl _, hE⟩, rfl, rfl, rfl, rfl⟩) (.c 12 rfl <| za _) qD qS ?_)
   rintro K1 D1 M1 m1 ⟨i, ⟨hi0, hE⟩, rfl, rfl, rfl, rfl⟩
   refine zF qA qA qA ?_
   have hr := hE.rng
   refine z6 (z6 ?_)
   rcases Nat.lt_or_ge j0 i with hji | hji
   ·skip
    refine yC qk qk (z5 rfl rfl (z5 rfl rfl (L.leI rfl rfl rfl (z5 rfl rfl (zv (t := 108) rfl (show _ = Value.bool false from congrArg Value.bool (decide_eq_false jO)) ?_)))))
    refine zg (dj := 108) (c := false) rfl rfl rfl rfl rfl jD (zg (dj := 108) (c := false) rfl rfl rfl rfl rfl jD (zg (dj := 108) (c := false) rfl rfl rfl rfl rfl jD (zg (dj := 108) (c := false) rfl rfl rfl rfl rfl jD (zg (dj := 108) (c := false) rfl rfl rfl rfl rfl jD (zg (dj := 108) (c := false) rfl rfl rfl rfl rfl jD (zg (dj := 108) (c := false) rfl rfl rfl rfl rfl jD (zg (dj := 108) (c := false) rfl rfl rfl rfl rfl jD (zg (dj := 108) (c := false) rfl rfl rfl rfl rfl jD (zg (dj := 108) (c := false) rfl rfl rfl rfl rfl jD (zg (dj := 108) (c := false) rfl rfl rfl rfl rfl jD (y5 rfl rfl rfl (yA (z4 (ym rfl rfl ?_))))))))))))))
    exact zR (zq (zq (zS (z4 (zK ⟨i, ⟨hi0, hE, fun e => absurd e jO⟩, rfl, rfl, rfl⟩ (.c 12 rfl <| za _) (.c 0 rfl <| .c 1 rfl <| .c 4 rfl <| .c 13 rfl <| za _) qD qD qF)))))
   ·skip
    have hg0 : zs[i]? = some (gd zs (i)) := zJ jO
    have hw0 := zT (gd zs (i))
    have hg1 : zs[ia]? = some (gd zs (ia)) := zJ jO
    have hw1 := zT (gd zs (ia))
    refine yC qk qk (z5 rfl rfl (z5 rfl rfl (L.leI rfl rfl rfl (z5 rfl rfl (zv (t := 108) rfl (show _ = Value.bool true from congrArg Value.bool (decide_eq_true jO)) ?_)))))
    refine zf (dj := 108) rfl rfl rfl (z5 rfl rfl (zf (dj := 108) rfl rfl rfl (z5 rfl rfl (zf (dj := 108) rfl rfl rfl (z5 rfl rfl (zf (dj := 108) rfl rfl rfl (zV (i := i) rfl zA zN rfl rfl jR qI ?_)))))))
    refine zf (dj := 108) rfl rfl rfl (zp rfl zu rfl (yg qM (zU hg0) hw0) ?_)
    refine zf (dj := 108) rfl rfl rfl (z5 rfl rfl (zf (dj := 108) rfl rfl rfl (z5 rfl rfl (zf (dj := 108) rfl rfl rfl (zV (i := ia) rfl zA zN rfl rfl jR qI ?_)))))
    refine zf (dj := 108) rfl rfl rfl (zp rfl zu rfl (yg qM (zU hg1) hw1) ?_)
    refine zf (dj := 108) rfl rfl rfl (xv rfl rfl (ev2 rfl rfl) qD qS (hc (gd zs i) (gd zs ia)) jF ?_)
    refine zf (dj := 108) rfl rfl rfl (zQ rfl rfl rfl (ye rfl rfl rfl (yA (z4 (zo rfl (fun h120 => ?_) (fun h120 => ?_))))))
    ·try simp only [dq] at h120
     refine zm (z4 (zr (z8 (z5 rfl rfl (zH rfl rfl rfl jO ?_)))))
     exact z9 rfl rfl (z7 (zI (z4 (zM ⟨i + 1, ⟨by omega, hE.up jO h120⟩, rfl, rfl, rfl, rfl⟩ qI (.c 12 rfl <| za _) (.c 0 rfl <| .c 1 rfl <| .c 4 rfl <| .c 13 rfl <| za _) qD qD qF))))
    ·try simp only [dq] at h120
     exact zR (zq (zq (zS (z4 (zK ⟨i, ⟨hi0, hE, fun _ => h120⟩, rfl, rfl, rfl⟩ (.c 12 rfl <| za _) (.c 0 rfl <| .c 1 rfl <| .c 4 rfl <| .c 13 rfl <| za _) qD qD qF)))))
  rintro _ _ _ ⟨i, ⟨hi0, hE, hx⟩, rfl, rfl, rfl⟩
  refine zF qA qA qA ?_
  have hr := hE.rng
  refine z4 (z6 (yu (fun K' D' M' => ∃ (j : Nat), (j ≤ j0 ∧ PtI cf zs ia ib i j ∧ (i ≤ j → ¬ cf (gd zs i) (gd zs ia) < 0) ∧ (i ≤ j → cf (gd zs j) (gd zs ia) < 0)) ∧ K' = [(13, .int .i64 (j : Int))] ∧ D' = [] ∧ M' = [own 32 38 (some ⟨pb, po, none⟩) len cap ((zs).map iC)]) (M0 := [own 32 38 (some ⟨pb, po, none⟩) len cap ((zs).map iC)]) (.c 0 rfl <| .c 1 rfl <| .c 4 rfl <| .c 12 rfl <| za _) qS ?_ ?_))
  ·skip
   refine zr (zX (fun K' D' M' μ => ∃ (j : Nat), (j ≤ j0 ∧ PtI cf zs ia ib i j ∧ (i ≤ j → ¬ cf (gd zs i) (gd zs ia) < 0)) ∧ K' = [(13, .int .i64 (j : Int))] ∧ D' = [] ∧ M' = [own 32 38 (some ⟨pb, po, none⟩) len cap ((zs).map iC)] ∧ μ = j + 1 - i) (.c 0 rfl <| .c 1 rfl <| .c 4 rfl <| .c 12 rfl <| za _) (⟨j0, ⟨Nat.le_refl _, hE, hx⟩, rfl, rfl, rfl, rfl⟩) (.c 13 rfl <| za _) qD qS ?_)
   rintro K1 D1 M1 m1 ⟨j, ⟨hj0, hE, hx⟩, rfl, rfl, rfl, rfl⟩
   refine zF qA qA qA ?_
   have hr := hE.rng
   refine z6 (z6 ?_)
   rcases Nat.lt_or_ge j i with hji | hji
   ·skip
    refine yC qk qk (z5 rfl rfl (z5 rfl rfl (L.leI rfl rfl rfl (z5 rfl rfl (zv (t := 126) rfl (show _ = Value.bool false from congrArg Value.bool (decide_eq_false jO)) ?_)))))
    refine zg (dj := 126) (c := false) rfl rfl rfl rfl rfl jD (zg (dj := 126) (c := false) rfl rfl rfl rfl rfl jD (zg (dj := 126) (c := false) rfl rfl rfl rfl rfl jD (zg (dj := 126) (c := false) rfl rfl rfl rfl rfl jD (zg (dj := 126) (c := false) rfl rfl rfl rfl rfl jD (zg (dj := 126) (c := false) rfl rfl rfl rfl rfl jD (zg (dj := 126) (c := false) rfl rfl rfl rfl rfl jD (zg (dj := 126) (c := false) rfl rfl rfl rfl rfl jD (zg (dj := 126) (c := false) rfl rfl rfl rfl rfl jD (zg (dj := 126) (c := false) rfl rfl rfl rfl rfl jD (zg (dj := 126) (c := false) rfl rfl rfl rfl rfl jD (zg (dj := 126) (c := false) rfl rfl rfl rfl rfl jD (y5 rfl rfl rfl (yA (z4 (ym rfl rfl ?_)))))))))))))))
    exact zR (zq (zq (zS (z4 (zK ⟨j, ⟨hj0, hE, hx, fun e => absurd e jO⟩, rfl, rfl, rfl⟩ (.c 13 rfl <| za _) (.c 0 rfl <| .c 1 rfl <| .c 4 rfl <| .c 12 rfl <| za _) qD qD qF)))))
   ·skip
    have hg0 : zs[j]? = some (gd zs (j)) := zJ jO
    have hw0 := zT (gd zs (j))
    have hg1 : zs[ia]? = some (gd zs (ia)) := zJ jO
    have hw1 := zT (gd zs (ia))
    refine yC qk qk (z5 rfl rfl (z5 rfl rfl (L.leI rfl rfl rfl (z5 rfl rfl (zv (t := 126) rfl (show _ = Value.bool true from congrArg Value.bool (decide_eq_true jO)) ?_)))))
    refine zf (dj := 126) rfl rfl rfl (z5 rfl rfl (zf (dj := 126) rfl rfl rfl (z5 rfl rfl (zf (dj := 126) rfl rfl rfl (z5 rfl rfl (zf (dj := 126) rfl rfl rfl (zV (i := j) rfl zA zN rfl rfl jR qI ?_)))))))
    refine zf (dj := 126) rfl rfl rfl (zp rfl zu rfl (yg qM (zU hg0) hw0) ?_)
    refine zf (dj := 126) rfl rfl rfl (z5 rfl rfl (zf (dj := 126) rfl rfl rfl (z5 rfl rfl (zf (dj := 126) rfl rfl rfl (zV (i := ia) rfl zA zN rfl rfl jR qI ?_)))))
    refine zf (dj := 126) rfl rfl rfl (zp rfl zu rfl (yg qM (zU hg1) hw1) ?_)
    refine zf (dj := 126) rfl rfl rfl (xv rfl rfl (ev2 rfl rfl) qD qS (hc (gd zs j) (gd zs ia)) jF ?_)
    refine zf (dj := 126) rfl rfl rfl (zQ rfl rfl rfl (zf (dj := 126) rfl rfl rfl (yX rfl rfl (ye rfl rfl rfl (yA (z4 (zo rfl (fun h139 => ?_) (fun h139 => ?_))))))))
    ·try simp only [dq] at h139
     refine zm (z4 (zr (z8 (z5 rfl rfl (y7 rfl rfl rfl jO ?_)))))
     refine zv (t := 141) (u := .int .i64 ((j - 1 : Nat) : Int)) rfl (congrArg (Value.int .i64) jO) ?_
     exact z9 rfl rfl (z7 (zI (z4 (zM ⟨j - 1, ⟨by omega, hE.down jO h139, fun _ => hx jO⟩, rfl, rfl, rfl, rfl⟩ qI (.c 13 rfl <| za _) (.c 0 rfl <| .c 1 rfl <| .c 4 rfl <| .c 12 rfl <| za _) qD qD qF))))
    ·try simp only [dq] at h139
     exact zR (zq (zq (zS (z4 (zK ⟨j, ⟨hj0, hE, hx, fun _ => h139⟩, rfl, rfl, rfl⟩ (.c 13 rfl <| za _) (.c 0 rfl <| .c 1 rfl <| .c 4 rfl <| .c 12 rfl <| za _) qD qD qF)))))
  rintro _ _ _ ⟨j, ⟨hj0, hE, hx, hy⟩, rfl, rfl, rfl⟩
  refine zF qA qA qA ?_
  have hr := hE.rng
  refine z4 (z6 (z6 (z8 (z5 rfl rfl (z5 rfl rfl (yB rfl rfl rfl (z7 (z4 (zo rfl (fun h144 => ?_) (fun h144 => ?_))))))))))
  ·try simp only [dq] at h144
   refine zR (zq (T.blkY rfl ?_))
   refine zq (zS (z4 (z6 ?_)))
   have hg0 : zs[j]? = some (gd zs (j)) := zJ jO
   have hw0 := zT (gd zs (j))
   have hg1 : zs[ia]? = some (gd zs (ia)) := zJ jO
   have hw1 := zT (gd zs (ia))
   refine yt (clsL [1, 1, 1, 1, 1, 1, 1, 0, 1, 1, 1, 0, 1, 2, 1, 2]) qk ?_
   refine ze 0 rfl rfl (z5 rfl rfl (zd (ze 1 rfl rfl (z5 rfl rfl (zd (ze 2 rfl rfl (z5 rfl rfl (zd (ze 3 rfl rfl (z5 rfl rfl (zd (ze 4 rfl rfl (z5 rfl rfl (zd (ze 5 rfl rfl (z5 rfl rfl (zd (ze 6 rfl rfl (zV (i := ia) rfl zA zN rfl rfl jR qI ?_)))))))))))))))))))
   refine zd (ze 8 rfl rfl (z5 rfl rfl (zd (ze 9 rfl rfl (z5 rfl rfl (zd (ze 10 rfl rfl (zV (i := j) rfl zA zN rfl rfl jR qI ?_))))))))
   refine zd (y8 (i := 7) rfl rfl rfl rfl qk qk qk qk rfl qD qF ?_)
   refine zp rfl zu rfl (yg qM (zU hg1) hw1) ?_
   refine zd (y8 (i := 11) rfl rfl rfl rfl qk qk qk qk rfl qD qF ?_)
   refine zp rfl zu rfl (yg qM (zU hg0) hw0) ?_
   refine zd (ze 12 rfl rfl (zV (i := j) rfl zA zN rfl rfl jR qI ?_))
   refine zd (zy 13 rfl (yS (j) zu rfl jR rfl qL qO qP qI ?_))
   refine zw rfl qD ?_
   refine ze 14 rfl rfl (zV (i := ia) rfl zA zN rfl rfl jR qI ?_)
   refine zd (zy 15 rfl (yS (ia) zu rfl jR rfl qL qO qP qI ?_))
   refine zw rfl qD ?_
   refine y6 qk ?_
   refine y4 _ ((sw zs (j) (ia)).map iC) qP (by rw [sw, List.map_set, List.map_set]) ?_
   obtain ⟨hp1, hp2, hp3⟩ := hE.end' hO jO jO
   exact z4 (z6 (z8 (z5 rfl rfl (z9 rfl rfl (z9 rfl rfl (z7 (z4 (zi (xe rfl rfl rfl ⟨sw zs j ia, j, _, rfl, hP.trans (.sw jO jO jO jO jO), ⟨hp2, hp3⟩, hp1, rfl, rfl⟩ qD qF)))))))))
  ·try simp only [dq] at h144
   refine zm (z4 (z6 ?_))
   have hg0 : zs[i]? = some (gd zs (i)) := zJ jO
   have hw0 := zT (gd zs (i))
   have hg1 : zs[j]? = some (gd zs (j)) := zJ jO
   have hw1 := zT (gd zs (j))
   refine yt (clsL [1, 1, 1, 1, 1, 1, 1, 0, 1, 1, 1, 0, 1, 2, 1, 2]) qk ?_
   refine ze 0 rfl rfl (z5 rfl rfl (zd (ze 1 rfl rfl (z5 rfl rfl (zd (ze 2 rfl rfl (z5 rfl rfl (zd (ze 3 rfl rfl (z5 rfl rfl (zd (ze 4 rfl rfl (z5 rfl rfl (zd (ze 5 rfl rfl (z5 rfl rfl (zd (ze 6 rfl rfl (zV (i := j) rfl zA zN rfl rfl jR qI ?_)))))))))))))))))))
   refine zd (ze 8 rfl rfl (z5 rfl rfl (zd (ze 9 rfl rfl (z5 rfl rfl (zd (ze 10 rfl rfl (zV (i := i) rfl zA zN rfl rfl jR qI ?_))))))))
   refine zd (y8 (i := 7) rfl rfl rfl rfl qk qk qk qk rfl qD qF ?_)
   refine zp rfl zu rfl (yg qM (zU hg1) hw1) ?_
   refine zd (y8 (i := 11) rfl rfl rfl rfl qk qk qk qk rfl qD qF ?_)
   refine zp rfl zu rfl (yg qM (zU hg0) hw0) ?_
   refine zd (ze 12 rfl rfl (zV (i := i) rfl zA zN rfl rfl jR qI ?_))
   refine zd (zy 13 rfl (yS (i) zu rfl jR rfl qL qO qP qI ?_))
   refine zw rfl qD ?_
   refine ze 14 rfl rfl (zV (i := j) rfl zA zN rfl rfl jR qI ?_)
   refine zd (zy 15 rfl (yS (j) zu rfl jR rfl qL qO qP qI ?_))
   refine zw rfl qD ?_
   refine y6 qk ?_
   refine y4 _ ((sw zs (i) (j)).map iC) qP (by rw [sw, List.map_set, List.map_set]) ?_
   refine z4 (z6 (z8 (z5 rfl rfl (zH rfl rfl rfl jO ?_))))
   refine z9 rfl rfl (z7 (z4 (z8 (z5 rfl rfl (y7 rfl rfl rfl jO ?_)))))
   refine zv (t := 162) (u := .int .i64 ((j - 1 : Nat) : Int)) rfl (congrArg (Value.int .i64) jO) ?_
   exact z9 rfl rfl (z7 (zI (z4 (zM ⟨i + 1, j - 1, sw zs i j, ⟨hP.trans (.sw jO jO jO jO jO), hE.swap jO jO (hx jO) (hy jO)⟩, rfl, rfl, rfl, rfl⟩ qI (.c 12 rfl <| .c 13 rfl <| za _) (.c 0 rfl <| .c 1 rfl <| .c 4 rfl <| za _) qD qD qF))))
end Cv
set_option maxRecDepth 10000
namespace Cv
open Go Go.Proofs

def PdqS (a : Option Addr) (len cap g : Nat) (cf : ID32 → ID32 → Int) (ia ib lm : Nat) (xs : List ID32) : Prop := Spec Tryz.prog 119 [.slice a len cap, .int .i64 (ia : Int), .int .i64 (ib : Int), .int .i64 (lm : Int), fnV g []] [] [own 32 38 a len cap ((xs).map iC)] (fun v D' M' => ∃ ys, v = .tuple #[] ∧ (PI ia ib xs ys) ∧ (FinS cf ys ia ib) ∧ D' = [] ∧ M' = [own 32 38 a len cap ((ys).map iC)])
set_option maxHeartbeats 2000000 in
theorem pdqw_step {a : Option Addr} {g len cap : Nat} {cf : ID32 → ID32 → Int} {xs : List ID32} (hO : SWO cf) (hI : ∀ x : ID32, ¬ cf x x < 0) (hc : ∀ x y : ID32, Spec Tryz.prog g [.agg (iC x).toArray, .agg (iC y).toArray] [] [] (fun u D' M' => u = .int .i64 (cf x y) ∧ D' = [] ∧ M' = [])) {ia ib lm : Nat} (ih : ∀ (ia' ib' lm' : Nat) (xs' : List ID32), ib' - ia' < ib - ia → ia' ≤ ib' → ib' ≤ len → lm' ≤ 64 → SB cf xs' ia' ib' ia' ib' → PdqS a len cap g cf ia' ib' lm' xs') (hSB : SB cf xs ia ib ia ib) (hab : ia ≤ ib) (hib : ib ≤ len) (hb : len ≤ 60000) (hlm : lm ≤ 64) : Spec Tryz.prog 119 [.slice a len cap, .int .i64 (ia : Int), .int .i64 (ib : Int), .int .i64 (lm : Int), fnV g []] [] [own 32 38 a len cap ((xs).map iC)] (fun v D' M' => ∃ (ys : List ID32), v = .tuple #[] ∧ (PI ia ib xs ys) ∧ (FinS cf ys ia ib) ∧ D' = [] ∧ M' = [own 32 38 a len cap ((ys).map iC)]) := by
 refine zC (n := 148) Tryz.func119 ?_
 intro σ D M
 refine xi qM (fun hl hcc => ?_)
 rw [List.length_map] at hl
 refine z6 (z8 (z9 rfl rfl (z7 (z4 (z6 (z8 (z9 rfl rfl (z7 (z4 (zr (zX (fun K' D' M' μ => ∃ (x y l : Nat) (wb wp : Bool) (zs : List ID32), ((ia ≤ x ∧ x ≤ y ∧ y ≤ ib ∧ l ≤ 64) ∧ PI ia ib xs zs ∧ SB cf zs ia ib x y) ∧ K' = [(1, .int .i64 (x : Int)), (2, .int .i64 (y : Int)), (3, .int .i64 (l : Int)), (10, .bool wb), (11, .bool wp)] ∧ D' = [] ∧ M' = [own 32 38 a len cap ((zs).map iC)] ∧ μ = y - x) (.c 0 rfl <| .c 4 rfl <| za _) (⟨ia, ib, lm, true, true, xs, ⟨by omega, .refl _ _ _, hSB⟩, rfl, rfl, rfl, rfl⟩) (.c 1 rfl <| .c 2 rfl <| .c 3 rfl <| .c 10 rfl <| .c 11 rfl <| za _) qD qS ?_)))))))))))
 rintro K1 D1 M1 m1 ⟨x, y, l, wb, wp, zs, ⟨hr, hP, hS⟩, rfl, rfl, rfl, rfl⟩
 refine zF qA qA qA ?_
 have hzl := hP.len
 refine zr (z6 (z8 (z5 rfl rfl (z5 rfl rfl (y7 rfl rfl rfl jO ?_)))))
 refine zv (t := 23) (u := .int .i64 ((y - x : Nat) : Int)) rfl (congrArg (Value.int .i64) jO) ?_
 refine z9 rfl rfl (z7 (z4 (z6 (z6 (z8 (z5 rfl rfl (L.leI rfl rfl rfl (z7 (z4 (zo rfl (fun h25 => ?_) (fun h25 => ?_)))))))))))
 ·try simp only [dq] at h25
  refine z6 (z8 (z5 rfl rfl (z5 rfl rfl (z5 rfl rfl (z5 rfl rfl (zx rfl (ev4 rfl rfl rfl rfl) qD qS (insw_spec (a := a) hO hI hc (xs := zs) (ia := x) (ib := y) jO jO jO) ?_))))))
  rintro _ _ _ ⟨ys, rfl, hPi, hSi, rfl, rfl⟩
  refine zt qA qA ?_
  exact z7 (z4 (zi (zD (y3 (zD (y3 (yW (by simp) rfl ⟨ys, rfl, hP.trans (hPi.wide jO jO), (hS.pi hPi jO jO).fin hSi, rfl, rfl⟩ qD qF)))))))
 ·try simp only [dq] at h25
  refine T.ownNe qM jO (fun pb po ha => ?_)
  subst ha
  refine zm (z4 (z6 (z6 (z8 (z5 rfl rfl (yj rfl rfl rfl (z7 (z4 (zo rfl (fun h32 => ?_) (fun h32 => ?_))))))))))
  ·try simp only [dq] at h32
   refine z6 (z8 (z5 rfl rfl (z5 rfl rfl (z5 rfl rfl (z5 rfl rfl (zx rfl (ev4 rfl rfl rfl rfl) qD qS (heap_spec hO hI hc (xs := zs) (ia := x) (ib := y) jO jO jO) ?_))))))
   rintro _ _ _ ⟨ys, rfl, hPi, hSi, rfl, rfl⟩
   refine zt qA qA ?_
   exact z7 (z4 (zi (zD (y3 (zD (y3 (yW (by simp) rfl ⟨ys, rfl, hP.trans (hPi.wide jO jO), (hS.pi hPi jO jO).fin hSi, rfl, rfl⟩ qD qF)))))))
  ·try simp only [dq] at h32
   have hl0 : l ≠ 0 := by omega
   refine zm (z4 (z6 (z6 (z8 (z5 rfl rfl (yX rfl rfl (z7 (z4 (yu (fun K' D' M' => ∃ (l2 : Nat) (ws1 : List ID32), (l2 ≤ 64 ∧ PI x y zs ws1) ∧ K' = [(3, .int .i64 (l2 : Int))] ∧ D' = [] ∧ M' = [own 32 38 (some ⟨pb, po, none⟩) len cap ((ws1).map iC)]) (M0 := [own 32 38 (some ⟨pb, po, none⟩) len cap ((zs).map iC)]) (.c 0 rfl <| .c 1 rfl <| .c 2 rfl <| .c 4 rfl <| .c 10 rfl <| .c 11 rfl <| .c 12 rfl <| za _) qS ?_ ?_)))))))))
   ·skip
    refine zo rfl (fun h39 => ?_) (fun h39 => ?_)
    ·try simp only [dq] at h39
     refine z6 (z8 (z5 rfl rfl (z5 rfl rfl (z5 rfl rfl (z5 rfl rfl (zx rfl (ev4 rfl rfl rfl rfl) qD qS (brk_spec hO hI hc (xs := zs) (ia := x) (ib := y) jO jO jO) ?_))))))
     rintro _ _ _ ⟨ys, rfl, hPi, rfl, rfl⟩
     refine zt qA qA ?_
     refine z7 (z4 (z8 (z5 rfl rfl (y7 rfl rfl rfl jO ?_))))
     refine zv (t := 46) (u := .int .i64 ((l - 1 : Nat) : Int)) rfl (congrArg (Value.int .i64) jO) ?_
     exact z9 rfl rfl (z7 (z4 (zK ⟨l - 1, ys, ⟨by omega, hPi⟩, rfl, rfl, rfl⟩ (.c 3 rfl <| za _) (.c 0 rfl <| .c 1 rfl <| .c 2 rfl <| .c 4 rfl <| .c 10 rfl <| .c 11 rfl <| .c 12 rfl <| za _) qD qD qF)))
    ·try simp only [dq] at h39
     exact zm (z4 (zK ⟨l, zs, ⟨by omega, .refl _ _ _⟩, rfl, rfl, rfl⟩ (.c 3 rfl <| za _) (.c 0 rfl <| .c 1 rfl <| .c 2 rfl <| .c 4 rfl <| .c 10 rfl <| .c 11 rfl <| .c 12 rfl <| za _) qD qD qF))
   rintro _ _ _ ⟨l2, ws1, ⟨hl2, hP1⟩, rfl, rfl, rfl⟩
   refine zF qA qA qA ?_
   have hz1 := hP1.len
   refine z4 (z6 (z8 (z5 rfl rfl (z5 rfl rfl (z5 rfl rfl (z5 rfl rfl (zx rfl (ev4 rfl rfl rfl rfl) qD qS (pivot_spec hO hI hc (xs := ws1) (ia := x) (ib := y) jO jO jO) ?_)))))))
   rintro _ _ _ ⟨pv, ht, rfl, hpv, rfl, rfl⟩
   refine zt qA qA ?_
   refine z5 rfl rfl (zG rfl rfl rfl (zG rfl rfl rfl (z9 rfl rfl (z9 rfl rfl (z7 (z4 (z6 (z6 (z8 (z5 rfl rfl (yj rfl rfl rfl (z7 (z4 (yu (fun K' D' M' => ∃ (pv2 : Nat) (ht2 : Int) (ws2 : List ID32), ((x ≤ pv2 ∧ pv2 < y) ∧ PI x y ws1 ws2) ∧ K' = [(13, .int .i64 (pv2 : Int)), (14, .int .i64 ht2)] ∧ D' = [] ∧ M' = [own 32 38 (some ⟨pb, po, none⟩) len cap ((ws2).map iC)]) (M0 := [own 32 38 (some ⟨pb, po, none⟩) len cap ((ws1).map iC)]) (.c 0 rfl <| .c 1 rfl <| .c 2 rfl <| .c 3 rfl <| .c 4 rfl <| .c 10 rfl <| .c 11 rfl <| .c 12 rfl <| za _) qS ?_ ?_))))))))))))))
   ·skip
    refine zo rfl (fun h56 => ?_) (fun h56 => ?_)
    ·try simp only [dq] at h56
     refine z6 (z8 (z5 rfl rfl (z5 rfl rfl (z5 rfl rfl (z5 rfl rfl (zx rfl (ev4 rfl rfl rfl rfl) qD qS (rev_spec hO hI hc (xs := ws1) (ia := x) (ib := y) jO jO jO) ?_))))))
     rintro _ _ _ ⟨ys, rfl, hPi, rfl, rfl⟩
     refine zt qA qA ?_
     refine z7 (z4 (z6 (z8 (z5 rfl rfl (y7 rfl rfl rfl jO ?_)))))
     refine z5 rfl rfl (z5 rfl rfl (y7 rfl rfl rfl jO ?_))
     refine y7 rfl rfl rfl jO ?_
     refine zv (t := 67) (u := .int .i64 ((y - 1 - (pv - x) : Nat) : Int)) rfl (congrArg (Value.int .i64) jO) ?_
     exact z9 rfl rfl (z7 (z4 (z8 (z9 rfl rfl (z7 (z4 (zK ⟨y - 1 - (pv - x), _, ys, ⟨by omega, hPi⟩, rfl, rfl, rfl⟩ (.c 13 rfl <| .c 14 rfl <| za _) (.c 0 rfl <| .c 1 rfl <| .c 2 rfl <| .c 3 rfl <| .c 4 rfl <| .c 10 rfl <| .c 11 rfl <| .c 12 rfl <| za _) qD qD qF)))))))
    ·try simp only [dq] at h56
     exact zm (z4 (zK ⟨pv, _, ws1, ⟨hpv, .refl _ _ _⟩, rfl, rfl, rfl⟩ (.c 13 rfl <| .c 14 rfl <| za _) (.c 0 rfl <| .c 1 rfl <| .c 2 rfl <| .c 3 rfl <| .c 4 rfl <| .c 10 rfl <| .c 11 rfl <| .c 12 rfl <| za _) qD qD qF))
   rintro _ _ _ ⟨pv2, ht2, ws2, ⟨hpv2, hPa⟩, rfl, rfl, rfl⟩
   refine zF qA qA qA ?_
   have hS2 : SB cf ws2 ia ib x y := (hS.pi (hP1.trans hPa) jO jO)
   have hP2a : PI ia ib xs ws2 := (hP.trans (hP1.wide jO jO)).trans (hPa.wide jO jO)
   have hz2 := hP2a.len
   refine z4 (z6 (z6 (yu (fun K' D' M' => ∃ (w5 : Bool), K' = [(75, .bool w5)] ∧ D' = [] ∧ M' = []) (M0 := []) (.c 0 rfl <| .c 1 rfl <| .c 2 rfl <| .c 3 rfl <| .c 4 rfl <| .c 10 rfl <| .c 11 rfl <| .c 12 rfl <| .c 13 rfl <| za _) qS ?_ ?_)))
   ·skip
    rcases (show wb = false ∨ (wb = true ∧ wp = false) ∨ (wb = true ∧ wp = true) by cases wb <;> cases wp <;> simp) with hb1 | ⟨hb1, hb2⟩ | ⟨hb1, hb2⟩
    ·skip
     refine z8 (z5 rfl rfl (z5 rfl rfl (zv (t := 69) rfl (show _ = Value.bool false from congrArg Value.bool hb1) ?_)))
     exact zg (dj := 69) (c := false) rfl rfl rfl rfl rfl jD (y5 rfl rfl rfl (z5 rfl rfl (zg (dj := 72) (c := false) rfl rfl rfl rfl rfl jD (zg (dj := 72) (c := false) rfl rfl rfl rfl rfl jD (y5 rfl rfl rfl (z7 (z4 (zK ⟨_, rfl, rfl, rfl⟩ (.c 75 rfl <| za _) (.c 0 rfl <| .c 1 rfl <| .c 2 rfl <| .c 3 rfl <| .c 4 rfl <| .c 10 rfl <| .c 11 rfl <| .c 12 rfl <| .c 13 rfl <| za _) qD qD qF))))))))
    ·skip
     refine z8 (z5 rfl rfl (z5 rfl rfl (zv (t := 69) rfl (show _ = Value.bool true from congrArg Value.bool hb1) ?_)))
     refine zf (dj := 69) rfl rfl rfl (z5 rfl rfl (ye rfl rfl rfl (z5 rfl rfl (zv (t := 72) rfl (show _ = Value.bool false from congrArg Value.bool hb2) ?_))))
     exact zg (dj := 72) (c := false) rfl rfl rfl rfl rfl jD (zg (dj := 72) (c := false) rfl rfl rfl rfl rfl jD (y5 rfl rfl rfl (z7 (z4 (zK ⟨_, rfl, rfl, rfl⟩ (.c 75 rfl <| za _) (.c 0 rfl <| .c 1 rfl <| .c 2 rfl <| .c 3 rfl <| .c 4 rfl <| .c 10 rfl <| .c 11 rfl <| .c 12 rfl <| .c 13 rfl <| za _) qD qD qF)))))
    ·skip
     refine z8 (z5 rfl rfl (z5 rfl rfl (zv (t := 69) rfl (show _ = Value.bool true from congrArg Value.bool hb1) ?_)))
     refine zf (dj := 69) rfl rfl rfl (z5 rfl rfl (ye rfl rfl rfl (z5 rfl rfl (zv (t := 72) rfl (show _ = Value.bool true from congrArg Value.bool hb2) ?_))))
     exact zf (dj := 72) rfl rfl rfl (z5 rfl rfl (zf (dj := 72) rfl rfl rfl (yj rfl rfl rfl (ye rfl rfl rfl (z7 (z4 (zK ⟨_, rfl, rfl, rfl⟩ (.c 75 rfl <| za _) (.c 0 rfl <| .c 1 rfl <| .c 2 rfl <| .c 3 rfl <| .c 4 rfl <| .c 10 rfl <| .c 11 rfl <| .c 12 rfl <| .c 13 rfl <| za _) qD qD qF)))))))
   rintro _ _ _ ⟨w5, rfl, rfl, rfl⟩
   refine zF qA qA qA ?_
   refine z4 (yu (fun K' D' M' => ∃ (us1 : List ID32), (PI x y ws2 us1) ∧ K' = [] ∧ D' = [] ∧ M' = [own 32 38 (some ⟨pb, po, none⟩) len cap ((us1).map iC)]) (M0 := [own 32 38 (some ⟨pb, po, none⟩) len cap ((ws2).map iC)]) (.c 0 rfl <| .c 1 rfl <| .c 2 rfl <| .c 3 rfl <| .c 4 rfl <| .c 10 rfl <| .c 11 rfl <| .c 12 rfl <| .c 13 rfl <| za _) qS ?_ ?_)
   ·skip
    refine zo rfl (fun h75 => ?_) (fun h75 => ?_)
    ·try simp only [dq] at h75
     refine z6 (z8 (z5 rfl rfl (z5 rfl rfl (z5 rfl rfl (z5 rfl rfl (zx rfl (ev4 rfl rfl rfl rfl) qD qS (part_spec hO hI hc (xs := ws2) (ia := x) (ib := y) (hS2.here jO jO) jO jO jO) ?_))))))
     rintro _ _ _ ⟨ys, ok, rfl, hPi, hok, rfl, rfl⟩
     refine zt qA qA ?_
     refine z7 (z4 (zo rfl (fun h80 => ?_) (fun h80 => ?_)))
     ·try simp only [dq] at h80
      exact zi (zD (zD (y3 (zD (y3 (yW (by simp) rfl ⟨ys, rfl, hP2a.trans (hPi.wide jO jO), (hS2.pi hPi jO jO).fin (hok h80), rfl, rfl⟩ qD qF))))))
     ·try simp only [dq] at h80
      exact zm (z4 (zK ⟨ys, hPi, rfl, rfl, rfl⟩ (za _) (.c 0 rfl <| .c 1 rfl <| .c 2 rfl <| .c 3 rfl <| .c 4 rfl <| .c 10 rfl <| .c 11 rfl <| .c 12 rfl <| .c 13 rfl <| za _) qD qD qF))
    ·try simp only [dq] at h75
     exact zm (z4 (zK ⟨ws2, (.refl _ _ _), rfl, rfl, rfl⟩ (za _) (.c 0 rfl <| .c 1 rfl <| .c 2 rfl <| .c 3 rfl <| .c 4 rfl <| .c 10 rfl <| .c 11 rfl <| .c 12 rfl <| .c 13 rfl <| za _) qD qD qF))
   rintro _ _ _ ⟨us1, hPb, rfl, rfl, rfl⟩
   refine zF qA qA qA ?_
   have hS3 : SB cf us1 ia ib x y := hS2.pi hPb jO jO
   have hP2 : PI ia ib xs us1 := hP2a.trans (hPb.wide jO jO)
   have hz3 := hP2.len
   refine z4 (z6 (z6 (yu (fun K' D' M' => ∃ (w : Bool), (w = true → 0 < x ∧ ¬ cf (gd us1 (x - 1)) (gd us1 pv2) < 0) ∧ K' = [(97, .bool w)] ∧ D' = [] ∧ M' = [own 32 38 (some ⟨pb, po, none⟩) len cap ((us1).map iC)]) (M0 := [own 32 38 (some ⟨pb, po, none⟩) len cap ((us1).map iC)]) (.c 0 rfl <| .c 1 rfl <| .c 2 rfl <| .c 3 rfl <| .c 4 rfl <| .c 10 rfl <| .c 11 rfl <| .c 12 rfl <| .c 13 rfl <| za _) qS ?_ ?_)))
   ·skip
    rcases Nat.eq_zero_or_pos x with hx0 | hx0
    ·skip
     refine yC qk qk (z5 rfl rfl (yB rfl rfl rfl (z5 rfl rfl (zv (t := 83) rfl (show _ = Value.bool false from congrArg Value.bool (decide_eq_false jO)) ?_))))
     exact zg (dj := 83) (c := false) rfl rfl rfl rfl rfl jD (zg (dj := 83) (c := false) rfl rfl rfl rfl rfl jD (zg (dj := 83) (c := false) rfl rfl rfl rfl rfl jD (zg (dj := 83) (c := false) rfl rfl rfl rfl rfl jD (zg (dj := 83) (c := false) rfl rfl rfl rfl rfl jD (zg (dj := 83) (c := false) rfl rfl rfl rfl rfl jD (zg (dj := 83) (c := false) rfl rfl rfl rfl rfl jD (zg (dj := 83) (c := false) rfl rfl rfl rfl rfl jD (zg (dj := 83) (c := false) rfl rfl rfl rfl rfl jD (zg (dj := 83) (c := false) rfl rfl rfl rfl rfl jD (zg (dj := 83) (c := false) rfl rfl rfl rfl rfl jD (zg (dj := 83) (c := false) rfl rfl rfl rfl rfl jD (zg (dj := 83) (c := false) rfl rfl rfl rfl rfl jD (y5 rfl rfl rfl (yA (z4 (zK ⟨_, (fun e => (by cases e)), rfl, rfl, rfl⟩ (.c 97 rfl <| za _) (.c 0 rfl <| .c 1 rfl <| .c 2 rfl <| .c 3 rfl <| .c 4 rfl <| .c 10 rfl <| .c 11 rfl <| .c 12 rfl <| .c 13 rfl <| za _) qD qD qF))))))))))))))))
    ·skip
     have hg0 : us1[x - 1]? = some (gd us1 (x - 1)) := zJ jO
     have hw0 := zT (gd us1 (x - 1))
     have hg1 : us1[pv2]? = some (gd us1 (pv2)) := zJ jO
     have hw1 := zT (gd us1 (pv2))
     refine yC qk qk (z5 rfl rfl (yB rfl rfl rfl (z5 rfl rfl (zv (t := 83) rfl (show _ = Value.bool true from congrArg Value.bool (decide_eq_true jO)) ?_))))
     refine zf (dj := 83) rfl rfl rfl (z5 rfl rfl (zf (dj := 83) rfl rfl rfl (z5 rfl rfl (zf (dj := 83) rfl rfl rfl (z5 rfl rfl (zf (dj := 83) rfl rfl rfl (y7 rfl rfl rfl jO ?_)))))))
     refine zv (t := 87) (u := .int .i64 ((x - 1 : Nat) : Int)) rfl (congrArg (Value.int .i64) jO) ?_
     refine zf (dj := 83) rfl rfl rfl (zV (i := x - 1) rfl zA zN rfl rfl jR qI ?_)
     refine zf (dj := 83) rfl rfl rfl (zp rfl zu rfl (yg qM (zU hg0) hw0) ?_)
     refine zf (dj := 83) rfl rfl rfl (z5 rfl rfl (zf (dj := 83) rfl rfl rfl (z5 rfl rfl (zf (dj := 83) rfl rfl rfl (zV (i := pv2) rfl zA zN rfl rfl jR qI ?_)))))
     refine zf (dj := 83) rfl rfl rfl (zp rfl zu rfl (yg qM (zU hg1) hw1) ?_)
     refine zf (dj := 83) rfl rfl rfl (xv rfl rfl (ev2 rfl rfl) qD qS (hc (gd us1 (x - 1)) (gd us1 pv2)) jF ?_)
     exact zf (dj := 83) rfl rfl rfl (zQ rfl rfl rfl (zf (dj := 83) rfl rfl rfl (yX rfl rfl (ye rfl rfl rfl (yA (z4 (zK ⟨_, (fun e => ⟨hx0, by simpa using e⟩), rfl, rfl, rfl⟩ (.c 97 rfl <| za _) (.c 0 rfl <| .c 1 rfl <| .c 2 rfl <| .c 3 rfl <| .c 4 rfl <| .c 10 rfl <| .c 11 rfl <| .c 12 rfl <| .c 13 rfl <| za _) qD qD qF)))))))
   rintro _ _ _ ⟨w, hw0, rfl, rfl, rfl⟩
   refine zF qA qA qA ?_
   refine z4 (zo rfl (fun h97 => ?_) (fun h97 => ?_))
   ·try simp only [dq] at h97
    have hw := hw0 h97
    have hw1 := hw.1
    refine z6 (z8 (z5 rfl rfl (z5 rfl rfl (z5 rfl rfl (z5 rfl rfl (z5 rfl rfl (zx rfl (ev5 rfl rfl rfl rfl rfl) qD qS (parte_spec hO hI hc (xs := us1) (ia := x) (ib := y) (pv := pv2) jO jO jO) ?_)))))))
    rintro _ _ _ ⟨us, mid, rfl, hPe, hme, hee, hk1, hk2, rfl, rfl⟩
    refine zt qA qA ?_
    have hSe : SB cf us ia ib mid y := (hS3.pi hPe jO jO).equal hO jO jO hme jO (by rw [hPe.out (x - 1) jO, hee]; exact hw.2) hk1 hk2
    exact z9 rfl rfl (z7 (z4 (z6 (z8 (z5 rfl rfl (z9 rfl rfl (z7 (z4 (zR (zq (zS (z4 (zM ⟨mid, y, l2, wb, wp, us, ⟨by omega, hP2.trans (hPe.wide jO jO), hSe⟩, rfl, rfl, rfl, rfl⟩ qI (.c 1 rfl <| .c 2 rfl <| .c 3 rfl <| .c 10 rfl <| .c 11 rfl <| za _) (.c 0 rfl <| .c 4 rfl <| za _) qD qD qF)))))))))))))
   ·try simp only [dq] at h97
    refine zm (z4 (z6 (z8 (z5 rfl rfl (z5 rfl rfl (z5 rfl rfl (z5 rfl rfl (z5 rfl rfl (zx rfl (ev5 rfl rfl rfl rfl rfl) qD qS (parti_spec hO hI hc (xs := us1) (ia := x) (ib := y) (pv := pv2) jO jO jO) ?_)))))))))
    rintro _ _ _ ⟨us, mid, wp2, rfl, hPp, hm, hPt, rfl, rfl⟩
    refine zt qA qA ?_
    have hSp : SB cf us ia ib x y := hS3.pi hPp jO jO
    have hPre := hPt.pre hO hSp jO jO hm
    refine z5 rfl rfl (zG rfl rfl rfl (zG rfl rfl rfl (z9 rfl rfl (z9 rfl rfl (z7 (z4 (z6 (z8 (z5 rfl rfl (z9 rfl rfl (z7 (z4 (z6 (z8 (z5 rfl rfl (z5 rfl rfl (y7 rfl rfl rfl jO ?_)))))))))))))))))
    refine zv (t := 117) (u := .int .i64 ((mid - x : Nat) : Int)) rfl (congrArg (Value.int .i64) jO) ?_
    refine z5 rfl rfl (z5 rfl rfl (y7 rfl rfl rfl jO ?_))
    refine zv (t := 120) (u := .int .i64 ((y - mid : Nat) : Int)) rfl (congrArg (Value.int .i64) jO) ?_
    refine z9 rfl rfl (z9 rfl rfl (z7 (z4 (z6 (z8 (z5 rfl rfl (L.quoN rfl rfl rfl qI ?_)))))))
    refine z9 rfl rfl (z7 (z4 (z6 (z8 (z5 rfl rfl (z5 rfl rfl (zQ rfl rfl rfl (z7 (z4 (zo rfl (fun h125 => ?_) (fun h125 => ?_)))))))))))
    ·try simp only [dq] at h125
     refine z6 (z8 (z5 rfl rfl (z5 rfl rfl (x6 rfl rfl rfl (z9 rfl rfl (z7 (z4 (z6 (z8 (z5 rfl rfl (z5 rfl rfl (z5 rfl rfl (z5 rfl rfl (z5 rfl rfl (zx rfl (ev5 rfl rfl rfl rfl rfl) qD qS (ih x mid l2 us jO jO jO jO hPre.1) ?_)))))))))))))))
     rintro _ _ _ ⟨ws, rfl, hPr, hFr, rfl, rfl⟩
     refine zt qA qA ?_
     refine z7 (z4 (z8 (z5 rfl rfl (zH rfl rfl rfl jO ?_))))
     exact z9 rfl rfl (z7 (zI (z4 (zM ⟨mid + 1, y, l2, _, _, ws, ⟨by omega, (hP2.trans (hPp.wide jO jO)).trans (hPr.wide jO jO), hPt.left hO hSp jO jO hm hPr hFr⟩, rfl, rfl, rfl, rfl⟩ qI (.c 1 rfl <| .c 2 rfl <| .c 3 rfl <| .c 10 rfl <| .c 11 rfl <| za _) (.c 0 rfl <| .c 4 rfl <| za _) qD qD qF))))
    ·try simp only [dq] at h125
     refine z6 (z8 (z5 rfl rfl (z5 rfl rfl (x6 rfl rfl rfl (z9 rfl rfl (z7 (z4 (z6 (z8 (z5 rfl rfl (z5 rfl rfl (zH rfl rfl rfl jO ?_))))))))))))
     refine zv (t := 142) (u := .int .i64 ((mid + 1 : Nat) : Int)) rfl (congrArg (Value.int .i64) jO) ?_
     refine z5 rfl rfl (z5 rfl rfl (z5 rfl rfl (zx rfl (ev5 rfl rfl rfl rfl rfl) qD qS (ih (mid + 1) y l2 us jO jO jO jO hPre.2) ?_)))
     rintro _ _ _ ⟨ws, rfl, hPr, hFr, rfl, rfl⟩
     refine zt qA qA ?_
     exact z7 (z4 (z8 (z5 rfl rfl (z9 rfl rfl (z7 (zI (z4 (zM ⟨x, mid, l2, _, _, ws, ⟨by omega, (hP2.trans (hPp.wide jO jO)).trans (hPr.wide jO jO), hPt.right hO hSp jO jO hm hPr hFr⟩, rfl, rfl, rfl, rfl⟩ qI (.c 1 rfl <| .c 2 rfl <| .c 3 rfl <| .c 10 rfl <| .c 11 rfl <| za _) (.c 0 rfl <| .c 4 rfl <| za _) qD qD qF))))))))
theorem pdqw_spec {a : Option Addr} {g len cap : Nat} {cf : ID32 → ID32 → Int} (hO : SWO cf) (hI : ∀ x : ID32, ¬ cf x x < 0) (hc : ∀ x y : ID32, Spec Tryz.prog g [.agg (iC x).toArray, .agg (iC y).toArray] [] [] (fun u D' M' => u = .int .i64 (cf x y) ∧ D' = [] ∧ M' = [])) (hb : len ≤ 60000) : ∀ (n ia ib lm : Nat) (xs : List ID32), ib - ia = n → ia ≤ ib → ib ≤ len → lm ≤ 64 → SB cf xs ia ib ia ib → PdqS a len cap g cf ia ib lm xs := by
 intro n
 induction n using Nat.strongRecOn with
 | _ n ih =>
  intro ia ib lm xs hn h1 h2 h3 h4
  exact pdqw_step hO hI hc (fun ia' ib' lm' xs' q1 q2 q3 q4 q5 => ih (ib' - ia') jO ia' ib' lm' xs' rfl q2 q3 q4 q5) h4 h1 h2 hb h3
theorem sortw_spec {a : Option Addr} {g len cap : Nat} {cf : ID32 → ID32 → Int} {xs : List ID32} (hO : SWO cf) (hI : ∀ x : ID32, ¬ cf x x < 0) (hc : ∀ x y : ID32, Spec Tryz.prog g [.agg (iC x).toArray, .agg (iC y).toArray] [] [] (fun u D' M' => u = .int .i64 (cf x y) ∧ D' = [] ∧ M' = [])) (hb : len ≤ 60000) : Spec Tryz.prog 84 [.slice a len cap, fnV g []] [] [own 32 38 a len cap ((xs).map iC)] (fun v D' M' => ∃ (ys : List ID32), v = .tuple #[] ∧ (ys.Perm xs) ∧ (SrtP cf ys 0 len) ∧ D' = [] ∧ M' = [own 32 38 a len cap ((ys).map iC)]) := by
 refine zC (n := 14) Tryz.func84 ?_
 intro σ D M
 refine z6 (z8 (z5 rfl rfl (y2 rfl zA rfl (z9 rfl rfl (z7 (z4 (z8 (z5 rfl rfl (z5 rfl rfl (z5 rfl rfl (L.convU rfl xf xH rfl qI ?_)))))))))))
 refine zx rfl (ev1 rfl) qD qS (lenw_spec (n := len) jO) ?_
 rintro _ _ _ ⟨k, rfl, hk, hk16, rfl, rfl⟩
 refine zt qA qA ?_
 refine z5 rfl rfl (zx rfl (ev5 rfl rfl rfl rfl rfl) qD qS (pdqw_spec (a := a) hO hI hc hb (len - 0) 0 len k xs rfl jO jO jO (fun p q h1 h2 h3 h4 => absurd ⟨Nat.zero_le _, h3⟩ h4)) ?_)
 rintro _ _ _ ⟨ys, rfl, hP, hF, rfl, rfl⟩
 refine zt qA qA ?_
 exact z7 (yW (by simp) rfl ⟨ys, rfl, hP.perm, fun p q _ h2 h3 => hF p q h2 (Nat.zero_le _) h3, rfl, rfl⟩ qD qF)
end Cv
