/-
  The walks: numbers, builders.
-/
import Derived.Test.YtahkbpiinbepcaaGreatP06
import Derived.Test.YtahkbpiinbepcaaGreatM05
import Derived.Test.YtahkbpiinbepcaaGreatProg
import Derived.KernelRfl
import Derived.Test.YtahkbpiinbepcaaGreatCvLe
set_option linter.unusedVariables false
set_option linter.unusedSimpArgs false
set_option linter.unusedSectionVars false
set_option maxHeartbeats 400000
set_option maxRecDepth 10000
namespace Cv
open Go Go.Proofs

theorem bnum_spec {n : Nat} (hn : n < 18446744073709551616) : Spec Tryz.prog 97 [.int .u64 (n : Int)] [] [] (fun v D' M' => v = S (numB n) ∧ D' = [] ∧ M' = []) := by
 refine zC (n := 20) Tryz.func97 ?_
 intro σ D M
 refine z6 (z8 (z9 rfl rfl (z7 (z4 (z6 (z8 (z9 rfl rfl (z7 (yF (sz := 1) (e := 5) ?_)))))))))
 refine z4 (z6 (zr (zX (fun K' D' M' μ => ∃ (m l3 c3 : Nat) (a3 : Option Addr) (acc : List UInt8), ((beB n = beB m ++ acc ∧ acc.length = l3) ∧ (m < 256 ^ (8 - l3) ∧ l3 ≤ 8)) ∧ K' = [(0, .int .u64 (m : Int)), (3, .slice a3 l3 c3)] ∧ D' = [] ∧ M' = [own 1 5 a3 l3 c3 (acc.map yr)] ∧ μ = 2 * m) (za _) (⟨n, 0, 0, none, [], ⟨⟨by simp, rfl⟩, by simpa using hn, by omega⟩, rfl, rfl, rfl, rfl⟩) (.c 0 rfl <| .c 3 rfl <| za _) qD qS ?_)))
 rintro K1 D1 M1 m1 ⟨m, l3, c3, a3, acc, ⟨⟨hbe, hal⟩, hmb, hl3⟩, rfl, rfl, rfl, rfl⟩
 refine zF qA qA qA ?_
 refine z6 (z6 (z8 (z5 rfl rfl (yB rfl rfl rfl (z7 (z4 (zo rfl (fun h5 => ?_) (fun h5 => ?_))))))))
 ·try simp only [dq] at h5
  refine zm (z4 (z6 (zr (z8 (z5 rfl rfl (L.convIY rfl xA zY rfl ?_))))))
  rw [y_byte]
  refine yh rfl bs128 jD (zB rfl rfl rfl <| zO (out := []) rfl) (fun b10 => ?_)
  refine yU (len := 1) (sz := 1) (e := 5) (rows := [UInt8.ofNat (m % 256)].map yr) qP (by rfl) rfl (by simp) ?_
  refine z5 rfl rfl (xy rfl yz yz el5 rfl rfl qP (rd_M qM) (by first | with_reducible exact One.yr | (intro u hu; simp at hu; simp_all)) qI qI (fun a12 c12 => ?_))
  refine z9 rfl rfl (z7 (zI (z4 (z8 (z5 rfl rfl (L.shrI rfl rfl rfl qI ?_))))))
  rw [shr8]
  refine z9 rfl rfl (z7 (z4 (y4 _ ((UInt8.ofNat (m % 256) :: acc).map yr) qP (by rfl) ?_)))
  exact zM ⟨m / 256, 1 + l3, _, _, UInt8.ofNat (m % 256) :: acc, ⟨⟨be_step hbe jO, by simp [hal]; omega⟩, (be_bound hmb jO).2, by have := (be_bound hmb jO).1; omega⟩, rfl, rfl, rfl, rfl⟩ qI (.c 0 rfl <| .c 3 rfl <| za _) (za _) qD qD qF
 ·try simp only [dq] at h5
  obtain rfl : m = 0 := by omega
  refine zR (zq (zq (zS (z4 (z6 (z8 (z5 rfl rfl (y2 rfl yz rfl (L.convIY rfl xf zY rfl ?_)))))))))
  rw [y_byte' jO]
  refine yh rfl bs128 jD (zB rfl rfl rfl <| zO (out := []) rfl) (fun b16 => ?_)
  refine yU (len := 1) (sz := 1) (e := 5) (rows := [UInt8.ofNat l3].map yr) qP (by rfl) rfl (by simp) ?_
  refine z5 rfl rfl (xy rfl yz yz el5 rfl rfl qP (rd_M qM) (by first | with_reducible exact One.yr | (intro u hu; simp at hu; simp_all)) qI qI (fun a18 c18 => ?_))
  refine L.ownEq _ ((numB n).map yr) qP (by rw [numB, beB_0, List.nil_append] at *; rw [hbe, hal]; rfl) ?_
  refine yZ (rows := (numB n).map yr) qP ?_
  refine L.bytesStr rfl yz zY yy rfl qM ?_
  exact z9 rfl rfl (z7 (z4 (zi (zz rfl rfl ⟨rfl, rfl, rfl⟩ qD qF))))
theorem bnums_spec {a : Option Addr} {len cap : Nat} {xs : List Int} (hl : len ≤ 1000000) (hg : ∀ k ∈ xs, k ≤ 9223372036854775807) : Spec Tryz.prog 66 [.slice a len cap] [rsl 1 a len cap (xs.map e3)] [] (fun v D' M' => v = S (xs.flatMap fun k => numB k.toNat) ∧ D' = [] ∧ M' = []) := by
 refine zC (n := 20) Tryz.func66 ?_
 intro σ D M
 refine yH qM (fun hxl hxc => ?_)
 rw [List.length_map] at hxl
 refine z6 (z8 (z9 rfl rfl (z7 (z4 (z6 (z8 (z9 rfl rfl (z7 (z4 (z6 (z6 (z8 (z5 rfl rfl (y2 rfl xE rfl (z5 rfl rfl (z7 (z4 (zr (zX (fun K' D' M' μ => ∃ (i : Nat) (acc : List UInt8), ((i ≤ len ∧ acc.length ≤ 9 * i) ∧ acc = (xs.take i).flatMap fun k => numB k.toNat) ∧ K' = [(8, .int .i64 i), (3, S acc)] ∧ D' = [] ∧ M' = [] ∧ μ = len - i) (.c 6 rfl <| .c 7 rfl <| za _) (⟨0, [], ⟨by simp, by simp⟩, rfl, rfl, rfl, rfl⟩) (.c 8 rfl <| .c 3 rfl <| za _) qD qS ?_)))))))))))))))))))
 rintro K1 D1 M1 m1 ⟨i, acc, ⟨⟨hi, hal⟩, hac⟩, rfl, rfl, rfl, rfl⟩
 refine zF qA qA qA ?_
 refine z6 (z8 (zQ rfl rfl rfl (z7 (z4 (z6 (zo rfl (fun h9 => ?_) (fun h9 => ?_)))))))
 ·try simp only [dq] at h9
  refine zm (z4 (z6 (zr (z6 (z8 ?_)))))
  have hx : xs[i]? = some (gd xs i) := zJ jO
  obtain ⟨k, hk⟩ : ∃ k, k = gd xs i := ⟨_, rfl⟩
  rw [← hk] at hx
  have hkb := hg k (List.mem_of_getElem? hx)
  have hnl := numB_len (n := k.toNat) jO
  refine yI (i := i) rfl xE sz3 rfl rfl qM jR qG (fun b10 o10 => ?_)
  refine zh rfl sc3 rfl qC ?_
  refine z9 rfl rfl (z7 (z4 (z8 (z5 rfl rfl (z5 rfl rfl (L.maxI rfl rfl rfl ?_))))))
  rw [show max k 0 = ((k.toNat : Nat) : Int) by omega]
  refine L.convU rfl xf xA rfl qI ?_
  refine zW rfl (ev1 rfl) qD qS (bnum_spec (n := k.toNat) jO) jF ?_
  refine L.addS rfl rfl rfl qI ?_
  refine z9 rfl rfl (z7 (zI (z4 (z8 (zH rfl rfl rfl jO ?_)))))
  exact z5 rfl rfl (z7 (z4 (zM ⟨i + 1, _, ⟨⟨by omega, by rw [List.length_append]; omega⟩, by rw [hac, ← take_snoc hx, List.flatMap_append]; simp⟩, rfl, rfl, rfl, rfl⟩ qI (.c 8 rfl <| .c 3 rfl <| za _) (.c 6 rfl <| .c 7 rfl <| za _) qD qD qF)))
 ·try simp only [dq] at h9
  exact zR (zq (zq (zS (z4 (z6 (z8 (z5 rfl rfl (z9 rfl rfl (z7 (z4 (zi (zz rfl rfl ⟨congrArg S (by rw [hac, List.take_of_length_le jO]), rfl, rfl⟩ qD qF))))))))))))
theorem bnum1_spec {a : Option Addr} {cap : Nat} {k : Int} (hk : k ≤ 9223372036854775807) : Spec Tryz.prog 66 [.slice a 1 cap] [rsl 1 a 1 cap ([k].map e3)] [] (fun v D' M' => v = S (numB k.toNat) ∧ D' = [] ∧ M' = []) := by
 have := bnums_spec (a := a) (len := 1) (cap := cap) (xs := [k]) jD (by simpa using hk)
 simpa using this
theorem bstr_spec {s : List UInt8} (hs : s.length ≤ 1000000000) : Spec Tryz.prog 161 [S s] [] [] (fun v D' M' => v = S (strB s) ∧ D' = [] ∧ M' = []) := by
 refine zC (n := 9) Tryz.func161 ?_
 intro σ D M
 have hnl := numB_len (n := s.length) jO
 refine z6 (z8 (z9 rfl rfl (z7 (z4 (z6 (z8 (z5 rfl rfl (xj rfl yy rfl (L.convU rfl xf xA rfl qI ?_)))))))))
 refine zW rfl (ev1 rfl) qD qS (bnum_spec (n := s.length) jO) jF ?_
 refine z5 rfl rfl (L.addS rfl rfl rfl qI ?_)
 exact z9 rfl rfl (z7 (z4 (zi (zz rfl rfl ⟨rfl, rfl, rfl⟩ qD qF))))
theorem nex : IsX Tryz.prog 177 Extern.AbiNoEscape.same := IsX.of Tryz.func177 qk qk qk qk
theorem bld_info : ∃ j, Tryz.prog.info? 216 = some j ∧ j.size ≠ 0 := by
 have h : (Tryz.prog.info? 216).map (·.size) = some 2 := by kernel_rfl
 obtain ⟨j, h1, h2⟩ := Option.map_eq_some_iff.1 h
 exact ⟨j, h1, by rw [h2]; decide⟩
theorem bcc_spec {b : Nat} {p a : Option Addr} {len cap : Nat} (hp : p = none ∨ p = some ⟨b, 0, none⟩)  : Spec Tryz.prog 160 [.pointer (some ⟨b, 0, none⟩)] [] [cl b 216 [.pointer (p), .slice a len cap]] (fun v D' M' => v = .tuple #[] ∧ D' = [] ∧ M' = [cl b 216 [.pointer (some ⟨b, 0, none⟩), .slice a len cap]]) := by
 refine zC (n := 20) Tryz.func160 ?_
 intro σ D M
 obtain ⟨jB, hj1, hj2⟩ := bld_info
 refine z6 (z8 (z5 rfl rfl (yi rfl rfl ?_)))
 refine zj rfl fo216_0 rfl ?_
 refine zh rfl sc214 rfl qC ?_
 refine L.eqlPtr rfl Tryz.underlying214 rfl rfl ?_
 refine z7 (z4 (zo rfl (fun h6 => ?_) (fun h6 => ?_)))
 ·try simp only [dq] at h6
  obtain rfl : p = none := by cases p; rfl; cases h6
  refine z8 (z5 rfl rfl (z5 rfl rfl (L.convToU (T := 216) rfl Tryz.underlying214 Tryz.underlying274 hj1 hj2 rfl qM (by simp) ?_)))
  refine L.callX (v := .pointer (some ⟨b, 0, none⟩)) nex rfl (ev1 rfl) (fun w _ => Lib.run_noEscape w _) ?_
  refine L.convFromU (T := 216) (k := 2) rfl Tryz.underlying274 Tryz.underlying214 hj1 rfl qM rfl qk ?_
  refine yi rfl rfl ?_
  refine zj rfl fo216_0 rfl ?_
  refine yv sc214 rfl rfl rfl qU qE ?_
  exact z7 (yW (by simp) rfl ⟨rfl, rfl, rfl⟩ qD qF)
 ·try simp only [dq] at h6
  obtain rfl : p = some ⟨b, 0, none⟩ := by rcases hp with q | q; subst q; cases h6; exact q
  refine z6 (z8 (z5 rfl rfl (yi rfl rfl ?_)))
  refine zj rfl fo216_0 rfl ?_
  refine zh rfl sc214 rfl qC ?_
  refine z5 rfl rfl (L.neqPtrSame rfl Tryz.underlying214 hj1 rfl rfl ?_)
  refine z7 (z4 (ym rfl rfl ?_))
  exact zm (yW (by simp) rfl ⟨rfl, rfl, rfl⟩ qD qF)
theorem bws_spec {b : Nat} {bs s : List UInt8} (hb : bs.length + s.length ≤ 140737488355328) : Spec Tryz.prog 130 [.pointer (some ⟨b, 0, none⟩), S s] [] [bldA 216 5 b (bs)] (fun v D' M' => v = .tuple #[.int .i64 s.length, .nilIface] ∧ D' = [] ∧ M' = [bldA 216 5 b (bs ++ s)]) := by
 refine zC (n := 19) Tryz.func130 ?_
 intro σ D M
 refine T.bldOpen qP (fun p a cap hp => ?_)
 refine z6 (z8 (z9 rfl rfl (z9 rfl rfl (z7 (z4 (z6 (z8 (z5 rfl rfl (zx rfl (ev1 rfl) qD qS (bcc_spec hp) ?_)))))))))
 rintro _ _ _ ⟨rfl, rfl, rfl⟩
 refine zt qA qA ?_
 refine z7 (z4 (z6 (z8 (z5 rfl rfl (z5 rfl rfl (yi rfl rfl ?_))))))
 refine zj rfl fo216_1 rfl ?_
 refine zh rfl yT rfl qC ?_
 refine z5 rfl rfl (L.appendS rfl yz yy el5 rfl rfl qP qI (fun a14 c14 => ?_))
 refine yi rfl rfl ?_
 refine zj rfl fo216_1 rfl ?_
 refine yv yT rfl rfl rfl qU qE ?_
 refine z7 (y4 _ ((bs ++ s).map yr) qP (by rw [List.map_append]) ?_)
 refine T.bldMk (bs := bs ++ s) (len := bs.length + s.length) (.inr rfl) (by simp) qS ?_
 exact z4 (z6 (z8 (z5 rfl rfl (xj rfl yy rfl (z9 rfl rfl (z9 rfl rfl (z7 (z4 (zi (xe rfl rfl rfl ⟨rfl, rfl, rfl⟩ qD qF))))))))))
theorem bln_spec {b : Nat} {bs : List UInt8}  : Spec Tryz.prog 132 [.pointer (some ⟨b, 0, none⟩)] [] [bldA 216 5 b (bs)] (fun v D' M' => v = .int .i64 bs.length ∧ D' = [] ∧ M' = [bldA 216 5 b (bs)]) := by
 refine zC (n := 8) Tryz.func132 ?_
 intro σ D M
 refine T.bldOpen qP (fun p a cap hp => ?_)
 refine z6 (z8 (z9 rfl rfl (z7 (z4 (z6 (z8 (z5 rfl rfl (yi rfl rfl ?_))))))))
 refine zj rfl fo216_1 rfl ?_
 refine zh rfl yT rfl qC ?_
 refine y2 rfl yz rfl (z9 rfl rfl (z7 (T.bldMk (bs := bs) hp rfl qS ?_)))
 exact z4 (zi (zz rfl rfl ⟨rfl, rfl, rfl⟩ qD qF))
theorem bst_spec {b : Nat} {bs : List UInt8} (h0 : bs ≠ []) (hb : bs.length ≤ 140737488355328) : Spec Tryz.prog 133 [.pointer (some ⟨b, 0, none⟩)] [] [bldA 216 5 b (bs)] (fun v D' M' => v = S bs ∧ D' = [] ∧ M' = []) := by
 refine zC (n := 14) Tryz.func133 ?_
 intro σ D M
 refine T.bldOpen qP (fun p a cap hp => ?_)
 have hbp := List.length_pos_iff.2 h0
 refine T.ownNe qM hbp (fun bo oo ha => ?_)
 subst ha
 refine xi qM (fun hbl hbc => ?_)
 refine z6 (z8 (z9 rfl rfl (z7 (z4 (z6 (yt (clsL [1, 0, 1, 0, 0, 1, 0, 1, 0, 1, 2, 1]) qk ?_))))))
 refine ze 0 rfl rfl (z5 rfl rfl (zd (ze 5 rfl rfl (z5 rfl rfl (zd (xn (i := 1) rfl rfl qk qk qk qk rfl qD qF rfl ?_))))))
 refine ze 2 rfl rfl (zj rfl fo216_1 rfl ?_)
 refine zd (y8 (i := 3) rfl rfl rfl rfl qk qk qk qk rfl qD qF ?_)
 refine zh rfl yT rfl qC ?_
 refine zd (xn (i := 6) rfl rfl qk qk qk qk rfl qD qF rfl ?_)
 refine ze 7 rfl rfl (zj rfl fo216_1 rfl ?_)
 refine zd (y8 (i := 8) rfl rfl rfl rfl qk qk qk qk rfl qD qF ?_)
 refine zh rfl yT rfl qC ?_
 refine zd (ze 9 rfl rfl (y2 rfl yz rfl (zd (zy 4 rfl (L.sliceData rfl jO rfl ?_)))))
 refine yK rfl qD qF ?_
 refine zy 10 rfl (L.unsafeStr (l := bs) rfl Tryz.underlying256 qk rfl rfl h0 jO qP ?_)
 refine zw rfl qD ?_
 refine ze 11 rfl rfl (z9 rfl rfl (zd (y6 qk ?_)))
 exact z4 (zi (zz rfl rfl ⟨rfl, rfl, rfl⟩ qD qF))
end Cv
