/-
  The walks: numbers, builders.
-/
import Derived.Test.YtncgoodlhmpfcaaGreatP06
import Derived.Test.YtncgoodlhmpfcaaGreatD05
set_option linter.all false
set_option maxHeartbeats 400000
set_option maxRecDepth 10000
namespace Cv
open Go Go.Proofs

theorem bnum_spec {n : Nat} (hn : n < 18446744073709551616) : Spec Tryz.prog 129 [.int .u64 (n : Int)] [] [] (fun v D' M' => v = S (numB n) ∧ D' = [] ∧ M' = []) := by
 refine zv (n := 20) Tryz.func129 ?_
 intro σ D M
 refine O (V R R (I (O (V R R (zu (yM (sz := 1) (e := 5) ?_))))))
 refine z8 (ze (zD (y8 (fun K' D' M' μ => ∃ (m l3 c3 : Nat) (a3 : Option Addr) (acc : List UInt8), ((beB n = beB m ++ acc ∧ acc.length = l3) ∧ (m < 256 ^ (8 - l3) ∧ l3 ≤ 8)) ∧ K' = [(0, .int .u64 (m : Int)), (3, .slice a3 l3 c3)] ∧ D' = [] ∧ M' = [own 1 5 a3 l3 c3 (acc.map yr)] ∧ μ = 2 * m) (zd _) (⟨n, 0, 0, none, [], ⟨⟨by simp, R⟩, by simpa using hn, by omega⟩, R, R, R, R⟩) (.c 0 R <| .c 3 R <| zd _) qD qS ?_)))
 rintro K1 D1 M1 m1 ⟨m, l3, c3, a3, acc, ⟨⟨hbe, hal⟩, hmb, hl3⟩, rfl, rfl, rfl, rfl⟩
 refine zM qA qA qA ?_
 refine ze (O (E R R (yy R R R (I (zA R (fun h5 => ?_) (fun h5 => ?_))))))
 ·try simp only [dq] at h5
  refine zq (z8 (ze (zD (zt (E R R (L.convIY R xM zX R ?_))))))
  rw [y_byte]
  refine yl R bs171 jD (zF R R R <| zQ (out := []) R) (fun b10 => ?_)
  refine yR (len := 1) (sz := 1) (e := 5) (rows := [UInt8.ofNat (m % 256)].map yr) qP (by rfl) R (by simp) ?_
  refine E R R (xC R yz yz el5 R R qP (rd_M qM) (by first | with_reducible exact One.yr | (intro u hu; simp at hu; simp_all)) qI qI (fun a12 c12 => ?_))
  refine V R R (zu (zS (z8 (zt (E R R (L.shrI R R R qI ?_))))))
  rw [shr8]
  refine V R R (I (yp _ ((UInt8.ofNat (m % 256) :: acc).map yr) qP (by rfl) ?_))
  exact zV ⟨m / 256, 1 + l3, _, _, UInt8.ofNat (m % 256) :: acc, ⟨⟨be_step hbe jO, by simp [hal]; omega⟩, (be_bound hmb jO).2, by have := (be_bound hmb jO).1; omega⟩, R, R, R, R⟩ qI (.c 0 R <| .c 3 R <| zd _) (zd _) qD qD qF
 try simp only [dq] at h5
 obtain rfl : m = 0 := by omega
 refine y4 (zG (zG (y5 (z8 (O (E R R (yb R yz R (L.convIY R xi zX R ?_))))))))
 rw [y_byte' jO]
 refine yl R bs171 jD (zF R R R <| zQ (out := []) R) (fun b16 => ?_)
 refine yR (len := 1) (sz := 1) (e := 5) (rows := [UInt8.ofNat l3].map yr) qP (by rfl) R (by simp) ?_
 refine E R R (xC R yz yz el5 R R qP (rd_M qM) (by first | with_reducible exact One.yr | (intro u hu; simp at hu; simp_all)) qI qI (fun a18 c18 => ?_))
 refine L.ownEq _ ((numB n).map yr) qP (by rw [numB, beB_0, List.nil_append] at *; rw [hbe, hal]; rfl) ?_
 refine yF (rows := (numB n).map yr) qP ?_
 refine xL R yz zX ye R qM ?_
 exact V R R (I (zo (zy R R ⟨R, R, R⟩ qD qF)))
theorem bnums_spec {a : Option Addr} {len cap : Nat} {xs : List Int} (hl : len ≤ 1000000) (hg : ∀ k ∈ xs, k ≤ 9223372036854775807) : Spec Tryz.prog 74 [.slice a len cap] [rsl 1 a len cap (xs.map e3)] [] (fun v D' M' => v = S (xs.flatMap fun k => numB k.toNat) ∧ D' = [] ∧ M' = []) := by
 refine zv (n := 20) Tryz.func74 ?_
 intro σ D M
 refine yU qM (fun hxl hxc => ?_)
 rw [List.length_map] at hxl
 refine O (V R R (I (O (V R R (I (ze (O (E R R (yb R Tryz.underlying221 R (E R R (I (zD (y8 (fun K' D' M' μ => ∃ (i : Nat) (acc : List UInt8), ((i ≤ len ∧ acc.length ≤ 9 * i) ∧ acc = (xs.take i).flatMap fun k => numB k.toNat) ∧ K' = [(8, .int .i64 i), (3, S acc)] ∧ D' = [] ∧ M' = [] ∧ μ = len - i) (.c 6 R <| .c 7 R <| zd _) (⟨0, [], ⟨by simp, by simp⟩, R, R, R, R⟩) (.c 8 R <| .c 3 R <| zd _) qD qS ?_)))))))))))))
 rintro K1 D1 M1 m1 ⟨i, acc, ⟨⟨hi, hal⟩, hac⟩, rfl, rfl, rfl, rfl⟩
 refine zM qA qA qA ?_
 refine O (zW R R R (I (ze (zA R (fun h9 => ?_) (fun h9 => ?_)))))
 ·try simp only [dq] at h9
  refine zq (z8 (ze (zD (ze (zt ?_)))))
  have hx : xs[i]? = some (gd xs i) := y9 jO
  obtain ⟨k, hk⟩ : ∃ k, k = gd xs i := ⟨_, rfl⟩
  rw [← hk] at hx
  have hkb := hg k (List.mem_of_getElem? hx)
  have hnl := numB_len (n := k.toNat) jO
  refine yP (i := i) R Tryz.underlying221 sz3 R R qM jR qG (fun b10 o10 => ?_)
  refine zf R sc3 R qC ?_
  refine V R R (I (zt (E R R (E R R (L.maxI R R R ?_)))))
  rw [show max k 0 = ((k.toNat : Nat) : Int) by omega]
  refine L.convU R xi xM R qI ?_
  refine zH R (ev1 R) qD qS (bnum_spec (n := k.toNat) jO) jF ?_
  refine L.addS R R R qI ?_
  refine V R R (zu (zS (z8 (zt (zT R R R jO ?_)))))
  exact E R R (I (zV ⟨i + 1, _, ⟨⟨by omega, by rw [List.length_append]; omega⟩, by rw [hac, ← take_snoc hx, List.flatMap_append]; simp⟩, R, R, R, R⟩ qI (.c 8 R <| .c 3 R <| zd _) (.c 6 R <| .c 7 R <| zd _) qD qD qF))
 try simp only [dq] at h9
 exact y4 (zG (zG (y5 (z8 (O (E R R (V R R (I (zo (zy R R ⟨congrArg S (by rw [hac, List.take_of_length_le jO]), R, R⟩ qD qF))))))))))
theorem bnum1_spec {a : Option Addr} {cap : Nat} {k : Int} (hk : k ≤ 9223372036854775807) : Spec Tryz.prog 74 [.slice a 1 cap] [rsl 1 a 1 cap ([k].map e3)] [] (fun v D' M' => v = S (numB k.toNat) ∧ D' = [] ∧ M' = []) := by
 have := bnums_spec (a := a) (len := 1) (cap := cap) (xs := [k]) jD (by simpa using hk)
 simpa using this
theorem bstr_spec {s : List UInt8} (hs : s.length ≤ 1000000000) : Spec Tryz.prog 176 [S s] [] [] (fun v D' M' => v = S (strB s) ∧ D' = [] ∧ M' = []) := by
 refine zv (n := 9) Tryz.func176 ?_
 intro σ D M
 have hnl := numB_len (n := s.length) jO
 refine O (V R R (I (O (E R R (yL R ye R (L.convU R xi xM R qI ?_))))))
 refine zH R (ev1 R) qD qS (bnum_spec (n := s.length) jO) jF ?_
 refine E R R (L.addS R R R qI ?_)
 exact V R R (I (zo (zy R R ⟨R, R, R⟩ qD qF)))
theorem nex : IsX Tryz.prog 214 Extern.AbiNoEscape.same := IsX.of Tryz.func214 qk qk qk qk
theorem bld_info : ∃ j, Tryz.prog.info? 197 = some j ∧ j.size ≠ 0 := by
 have h : (Tryz.prog.info? 197).map (·.size) = some 2 := by kernel_rfl
 obtain ⟨j, h1, h2⟩ := Option.map_eq_some_iff.1 h
 exact ⟨j, h1, by rw [h2]; decide⟩
theorem bcc_spec {b : Nat} {p a : Option Addr} {len cap : Nat} (hp : p = none ∨ p = some ⟨b, 0, none⟩)  : Spec Tryz.prog 175 [.pointer (some ⟨b, 0, none⟩)] [] [cl b 197 [.pointer (p), .slice a len cap]] (fun v D' M' => v = .tuple #[] ∧ D' = [] ∧ M' = [cl b 197 [.pointer (some ⟨b, 0, none⟩), .slice a len cap]]) := by
 refine zv (n := 20) Tryz.func175 ?_
 intro σ D M
 obtain ⟨jB, hj1, hj2⟩ := bld_info
 refine O (E R R (zJ R R ?_))
 refine zg R fo197_0 R ?_
 refine zf R sc195 R qC ?_
 refine L.eqlPtr R xS R R ?_
 refine I (zA R (fun h6 => ?_) (fun h6 => ?_))
 ·try simp only [dq] at h6
  obtain rfl : p = none := by cases p; rfl; cases h6
  refine zt (E R R (E R R (L.convToU (T := 197) R xS Tryz.underlying307 hj1 hj2 R qM (by simp) ?_)))
  refine L.callX (v := .pointer (some ⟨b, 0, none⟩)) nex R (ev1 R) (fun w _ => Lib.run_noEscape w _) ?_
  refine L.convFromU (T := 197) (k := 2) R Tryz.underlying307 xS hj1 R qM R qk ?_
  refine zJ R R ?_
  refine zg R fo197_0 R ?_
  refine yj sc195 R R R qU qE ?_
  exact zu (yS (by simp) R ⟨R, R, R⟩ qD qF)
 try simp only [dq] at h6
 obtain rfl : p = some ⟨b, 0, none⟩ := by rcases hp with q | q; subst q; cases h6; exact q
 refine O (E R R (zJ R R ?_))
 refine zg R fo197_0 R ?_
 refine zf R sc195 R qC ?_
 refine E R R (L.neqPtrSame R xS hj1 R R ?_)
 refine I (zR R R ?_)
 exact zq (yS (by simp) R ⟨R, R, R⟩ qD qF)
theorem bws_spec {b : Nat} {bs s : List UInt8} (hb : bs.length + s.length ≤ 140737488355328) : Spec Tryz.prog 114 [.pointer (some ⟨b, 0, none⟩), S s] [] [bldA 197 5 b (bs)] (fun v D' M' => v = .tuple #[.int .i64 s.length, .nilIface] ∧ D' = [] ∧ M' = [bldA 197 5 b (bs ++ s)]) := by
 refine zv (n := 19) Tryz.func114 ?_
 intro σ D M
 refine T.bldOpen qP (fun p a cap hp => ?_)
 refine O (V R R (V R R (I (O (E R R (zp R (ev1 R) qD qS (bcc_spec hp) ?_))))))
 rintro _ _ _ ⟨rfl, rfl, rfl⟩
 refine zm qA qA ?_
 refine I (O (E R R (E R R (zJ R R ?_))))
 refine zg R fo197_1 R ?_
 refine zf R yZ R qC ?_
 refine E R R (L.appendS R yz ye el5 R R qP qI (fun a14 c14 => ?_))
 refine zJ R R ?_
 refine zg R fo197_1 R ?_
 refine yj yZ R R R qU qE ?_
 refine zu (yp _ ((bs ++ s).map yr) qP (by rw [List.map_append]) ?_)
 refine T.bldMk (bs := bs ++ s) (len := bs.length + s.length) (.inr R) (by simp) qS ?_
 exact z8 (O (E R R (yL R ye R (V R R (V R R (I (zo (x8 R R R ⟨R, R, R⟩ qD qF))))))))
theorem bln_spec {b : Nat} {bs : List UInt8}  : Spec Tryz.prog 116 [.pointer (some ⟨b, 0, none⟩)] [] [bldA 197 5 b (bs)] (fun v D' M' => v = .int .i64 bs.length ∧ D' = [] ∧ M' = [bldA 197 5 b (bs)]) := by
 refine zv (n := 8) Tryz.func116 ?_
 intro σ D M
 refine T.bldOpen qP (fun p a cap hp => ?_)
 refine O (V R R (I (O (E R R (zJ R R ?_)))))
 refine zg R fo197_1 R ?_
 refine zf R yZ R qC ?_
 refine yb R yz R (V R R (zu (T.bldMk (bs := bs) hp R qS ?_)))
 exact z8 (zo (zy R R ⟨R, R, R⟩ qD qF))
theorem bst_spec {b : Nat} {bs : List UInt8} (h0 : bs ≠ []) (hb : bs.length ≤ 140737488355328) : Spec Tryz.prog 117 [.pointer (some ⟨b, 0, none⟩)] [] [bldA 197 5 b (bs)] (fun v D' M' => v = S bs ∧ D' = [] ∧ M' = []) := by
 refine zv (n := 14) Tryz.func117 ?_
 intro σ D M
 refine T.bldOpen qP (fun p a cap hp => ?_)
 have hbp := List.length_pos_iff.2 h0
 refine T.ownNe qM hbp (fun bo oo ha => ?_)
 subst ha
 refine xo qM (fun hbl hbc => ?_)
 refine O (V R R (I (ze (y7 (clsL [1, 0, 1, 0, 0, 1, 0, 1, 0, 1, 2, 1]) qk ?_))))
 refine z9 0 R R (E R R (z7 (z9 5 R R (E R R (z7 (yE (i := 1) R R qk qk qk qk R qD qF R ?_))))))
 refine z9 2 R R (zg R fo197_1 R ?_)
 refine z7 (zY (i := 3) R R R R qk qk qk qk R qD qF ?_)
 refine zf R yZ R qC ?_
 refine z7 (yE (i := 6) R R qk qk qk qk R qD qF R ?_)
 refine z9 7 R R (zg R fo197_1 R ?_)
 refine z7 (zY (i := 8) R R R R qk qk qk qk R qD qF ?_)
 refine zf R yZ R qC ?_
 refine z7 (z9 9 R R (yb R yz R (z7 (zi 4 R (L.sliceData R jO R ?_)))))
 refine yH R qD qF ?_
 refine zi 10 R (L.unsafeStr (l := bs) R Tryz.underlying261 qk R R h0 jO qP ?_)
 refine zh R qD ?_
 refine z9 11 R R (V R R (z7 (zN qk ?_)))
 exact z8 (zo (zy R R ⟨R, R, R⟩ qD qF))
end Cv
