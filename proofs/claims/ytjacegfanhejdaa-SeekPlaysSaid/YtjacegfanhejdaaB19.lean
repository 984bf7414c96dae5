/-
  The walks: names of addresses.
-/
import Derived.Test.YtjacegfanhejdaaH2
import Derived.Test.YtjacegfanhejdaaSx
import Derived.Test.YtjacegfanhejdaaProg
import Derived.KernelRfl
set_option linter.unusedVariables false
set_option linter.unusedSimpArgs false
set_option linter.unusedSectionVars false
set_option maxRecDepth 10000
namespace Cv
open Go Go.Proofs
/-! ## names of addresses, and how far they are from each other -/
def idF (n : Int) : List UInt8 := oidF 4 [kb n]
theorem idF_len (n : Int) : (idF n).length = 32 := oidF_len _ _
def xorTo (x y : List UInt8) : Nat → List UInt8
  | 0 => x
  | k + 1 => (xorTo x y k).set k (gd (xorTo x y k) k ^^^ gd y k)
theorem xorTo_len (x y : List UInt8) : ∀ k, (xorTo x y k).length = x.length
  | 0 => rfl
  | k + 1 => by rw [xorTo, List.length_set, xorTo_len x y k]
def xorL (x y : List UInt8) : List UInt8 := xorTo x y 32
theorem xorL_len (x y : List UInt8) : (xorL x y).length = x.length := xorTo_len x y 32
def tab8 : List UInt8 := [0, 1, 2, 2, 3, 3, 3, 3, 4, 4, 4, 4, 4, 4, 4, 4, 5, 5, 5, 5, 5, 5, 5, 5, 5, 5, 5, 5, 5, 5, 5, 5, 6, 6, 6, 6, 6, 6, 6, 6, 6, 6, 6, 6, 6, 6, 6, 6, 6, 6, 6, 6, 6, 6, 6, 6, 6, 6, 6, 6, 6, 6, 6, 6, 7, 7, 7, 7, 7, 7, 7, 7, 7, 7, 7, 7, 7, 7, 7, 7, 7, 7, 7, 7, 7, 7, 7, 7, 7, 7, 7, 7, 7, 7, 7, 7, 7, 7, 7, 7, 7, 7, 7, 7, 7, 7, 7, 7, 7, 7, 7, 7, 7, 7, 7, 7, 7, 7, 7, 7, 7, 7, 7, 7, 7, 7, 7, 7, 8, 8, 8, 8, 8, 8, 8, 8, 8, 8, 8, 8, 8, 8, 8, 8, 8, 8, 8, 8, 8, 8, 8, 8, 8, 8, 8, 8, 8, 8, 8, 8, 8, 8, 8, 8, 8, 8, 8, 8, 8, 8, 8, 8, 8, 8, 8, 8, 8, 8, 8, 8, 8, 8, 8, 8, 8, 8, 8, 8, 8, 8, 8, 8, 8, 8, 8, 8, 8, 8, 8, 8, 8, 8, 8, 8, 8, 8, 8, 8, 8, 8, 8, 8, 8, 8, 8, 8, 8, 8, 8, 8, 8, 8, 8, 8, 8, 8, 8, 8, 8, 8, 8, 8, 8, 8, 8, 8, 8, 8, 8, 8, 8, 8, 8, 8, 8, 8, 8, 8, 8, 8, 8, 8, 8, 8, 8, 8]
def l8 (c : UInt8) : Int := ((gd tab8 c.toNat).toNat : Int)
/-- bits in common: from the k-th byte on -/
def shF : List UInt8 → Nat → Int
  | [], k => 8 * (k : Int)
  | c :: cs, k => if ¬ (c.toNat : Int) = 0 then 8 * (k : Int) + (8 - l8 c) else shF cs (k + 1)
def sharedF (x y : List UInt8) : Int := shF (xorL x y) 0
theorem shF_s {l : List UInt8} {k : Nat} (h : k < l.length) : shF (l.drop k) k = if ¬ ((gd l k).toNat : Int) = 0 then 8 * (k : Int) + (8 - l8 (gd l k)) else shF (l.drop (k + 1)) (k + 1) := by
  rw [List.drop_eq_getElem_cons h, shF]
  have : gd l k = l[k] := by
    have := gd_get h
    rw [List.getElem?_eq_getElem h] at this
    exact (Option.some.inj this).symm
  rw [this]
theorem shF_e {l : List UInt8} (h : l.length = 32) : shF (l.drop 32) 32 = 256 := by rw [List.drop_of_length_le (by omega)]; rfl
theorem l8_le (c : UInt8) : 0 ≤ l8 c ∧ l8 c ≤ 8 := by
  have h : ∀ x ∈ tab8, x.toNat ≤ 8 := by decide
  have hl : c.toNat < tab8.length := c.toNat_lt
  have := h _ (List.mem_of_getElem? (gd_get hl))
  unfold l8
  omega
theorem xorY_s (a b : UInt8) : bitsXor .u8 (a.toNat : Int) (b.toNat : Int) = ((a ^^^ b).toNat : Int) := by
  unfold bitsXor
  rw [wrap_u8]
  have e0 : ∀ z : UInt8, BitVec.ofInt 8 (z.toNat : Int) = z.toBitVec := by
    intro z
    apply BitVec.eq_of_toNat_eq
    have := z.toNat_lt
    rw [BitVec.toNat_ofInt]
    show ((z.toNat : Int) % 256).toNat = z.toNat
    omega
  have e : ((BitVec.ofInt IntKind.u8.bits (a.toNat : Int)) ^^^ (BitVec.ofInt IntKind.u8.bits (b.toNat : Int))).toNat = (a ^^^ b).toNat := by
    show ((BitVec.ofInt 8 (a.toNat : Int)) ^^^ (BitVec.ofInt 8 (b.toNat : Int))).toNat = (a ^^^ b).toNat
    rw [e0, e0]; rfl
  rw [e]
  have := (a ^^^ b).toNat_lt
  congr 1
  rw [UInt8.toNat_ofNat']
  omega
theorem xorTo_32 (x y : List UInt8) : xorTo x y 32 = xorL x y := rfl
theorem idF_eq (n : Int) : oidF 4 [[kb n]].flatten = idF n := rfl
theorem l8_eq (c : UInt8) : ((gd tab8 c.toNat).toNat : Int) = l8 c := rfl
theorem sharedF_0 (x y : List UInt8) : sharedF x y = shF ((xorL x y).drop 0) 0 := rfl
attribute [irreducible] sharedF xorL shF idF l8

set_option maxHeartbeats 400000 in
theorem bid_spec {n : Int}  : Spec Try.prog 39 [.int .i64 n] [] [] (fun v D' M' => v = .agg ((idF n).map Y).toArray ∧ D' = [] ∧ M' = []) := by
  refine Spec.intro (n := 9) Try.func39 rfl rfl (by decide) (Nat.le_of_ble_eq_true rfl) rfl (fun _ => qA) (fun _ => qA) ?_
  intro σ D M
  refine T.seq ?_
  refine T.region ?_
  refine L.alloc rfl ze27 (fun b2 => ?_)
  refine L.nil ?_
  refine T.thenN ?_
  refine T.seq ?_
  refine T.region ?_
  refine L.move rfl rfl ?_
  refine L.convIY rfl Try.underlying3 Try.underlying5 rfl ?_
  refine L.buildSlice rfl bs69 (by decide) (BP.one rfl rfl rfl <| BP.doneE (out := []) rfl) (fun b5 => ?_)
  refine L.toOwn (len := 1) qP (rows := [kb n].map yr) (sz := 1) (by rfl) rfl (by simp) ?_
  refine L.ownRsl qP ?_
  refine L.bytesStr rfl Try.underlying69 Try.underlying5 Try.underlying9 rfl qM ?_
  refine L.buildSlice rfl bs101 (by decide) (BP.one rfl rfl rfl <| BP.doneE (out := []) rfl) (fun b7 => ?_)
  refine L.toOwn (len := 1) qP (rows := [[kb n]].map ys) (sz := 1) (by rfl) rfl (by simp) ?_
  refine L.ownRsl qP ?_
  refine L.call rfl (evs.cons rfl <| evs.cons rfl <| evs.nil) qD qS (oidof_spec (ls := [[kb n]]) (by simp) (by simp)) ?_
  rintro _ _ _ ⟨rfl, rfl, rfl⟩
  refine L.norm qA qA ?_
  rw [idF_eq]
  have h32 := idF_len n
  refine L.storeA ag27 rfl rfl qL qO qU qW ?_
  refine L.nil ?_
  refine T.thenN ?_
  refine T.ret ?_
  exact T.retA rfl ag27 rfl qN ⟨rfl, rfl, rfl⟩ qD qF
set_option maxHeartbeats 400000 in
theorem xor_spec {x y : List UInt8} (hx : x.length = 32) (hy : y.length = 32) : Spec Try.prog 38 [.agg (x.map Y).toArray, .agg (y.map Y).toArray] [] [] (fun v D' M' => v = .agg ((xorL x y).map Y).toArray ∧ D' = [] ∧ M' = []) := by
  refine Spec.intro (n := 19) Try.func38 rfl rfl (by decide) (Nat.le_of_ble_eq_true rfl) rfl (fun _ => qA) (fun _ => qA) ?_
  intro σ D M
  refine T.seq ?_
  refine T.region ?_
  refine L.box rfl rfl rfl (fun b2 => ?_)
  refine L.box rfl rfl rfl (fun b3 => ?_)
  refine L.alloc rfl ze27 (fun b4 => ?_)
  refine L.nil ?_
  refine T.thenN ?_
  refine T.seq ?_
  refine T.seq ?_
  refine T.region ?_
  refine L.move rfl rfl ?_
  refine L.nil ?_
  refine T.thenN ?_
  refine T.block ?_
  refine T.clEq b2 ((xorTo x y 0).map Y) qP (by rfl) ?_
  refine T.loop (fun K' D' M' μ => ∃ (k : Nat), (k ≤ 32) ∧ K' = [(6, .int .i64 k)] ∧ D' = [] ∧ M' = [cl b2 27 ((xorTo x y k).map Y)] ∧ μ = 32 - k) (.cons (t := 2) rfl <| .cons (t := 3) rfl <| .cons (t := 4) rfl <| SubK.nil _) (⟨0, Nat.zero_le _, rfl, rfl, rfl, rfl⟩) (.cons (t := 6) rfl <| SubK.nil _) qD qS ?_
  rintro K1 D1 M1 m1 ⟨k, hk, rfl, rfl, rfl, rfl⟩
  refine T.norm3 qA qA qA ?_
  have hxl : (xorTo x y k).length = 32 := by rw [xorTo_len]; exact hx
  refine T.seq ?_
  refine T.region ?_
  refine L.ltI rfl rfl rfl ?_
  refine L.nil ?_
  refine T.thenN ?_
  refine T.seq ?_
  refine T.cond rfl (fun h7 => ?_) (fun h7 => ?_)
  · try simp only [decide_eq_true_eq, decide_eq_false_iff_not, Bool.not_eq_true', Bool.not_eq_false', Bool.and_eq_true, Bool.or_eq_true] at h7
    refine T.skip ?_
    refine T.thenN ?_
    refine T.seq ?_
    refine T.block ?_
    refine T.seq ?_
    refine T.region ?_
    refine L.move rfl rfl ?_
    refine L.assign rfl rfl ?_
    refine L.nil ?_
    refine T.thenN ?_
    refine T.regionA (clsL [1, 0, 0, 1, 0, 0, 1, 0, 2]) (by kernel_rfl) ?_
    refine A.takeP (i := 0) rfl rfl rfl rfl (by kernel_rfl) (by kernel_rfl) (by kernel_rfl) rfl qD ?_
    refine L.move rfl rfl ?_
    refine A.took ?_
    refine A.takeP (i := 3) rfl rfl rfl rfl (by kernel_rfl) (by kernel_rfl) (by kernel_rfl) rfl qD ?_
    refine L.move rfl rfl ?_
    refine A.took ?_
    refine A.take (i := 1) rfl rfl rfl rfl (by kernel_rfl) (by kernel_rfl) (by kernel_rfl) (by kernel_rfl) rfl qD qF ?_
    refine L.idxA1 rfl Try.underlying27 sz5 rfl rfl rfl qI ?_
    refine A.took ?_
    refine A.take (i := 2) rfl rfl rfl rfl (by kernel_rfl) (by kernel_rfl) (by kernel_rfl) (by kernel_rfl) rfl qD qF ?_
    refine L.load rfl sc5 rfl qC ?_
    refine A.took ?_
    refine A.take (i := 4) rfl rfl rfl rfl (by kernel_rfl) (by kernel_rfl) (by kernel_rfl) (by kernel_rfl) rfl qD qF ?_
    refine L.idxA1 rfl Try.underlying27 sz5 rfl rfl rfl qI ?_
    refine A.took ?_
    refine A.take (i := 5) rfl rfl rfl rfl (by kernel_rfl) (by kernel_rfl) (by kernel_rfl) (by kernel_rfl) rfl qD qF ?_
    refine L.load rfl sc5 rfl qC ?_
    refine A.took ?_
    refine A.takeP (i := 6) rfl rfl rfl rfl (by kernel_rfl) (by kernel_rfl) (by kernel_rfl) rfl qD ?_
    refine L.xorI rfl rfl rfl ?_
    rw [xorY_s]
    refine A.took ?_
    refine A.take (i := 7) rfl rfl rfl rfl (by kernel_rfl) (by kernel_rfl) (by kernel_rfl) (by kernel_rfl) rfl qD qF ?_
    refine L.idxA1 rfl Try.underlying27 sz5 rfl rfl rfl qI ?_
    refine A.took ?_
    refine A.branch (is := [8]) (by kernel_rfl) (by decide) (Each.cons rfl ?_ <| Each.nil) 
    refine L.store sc5 rfl rfl rfl qU qE ?_
    refine A.backT rfl qD ?_
    refine A.done (by kernel_rfl) ?_
    refine T.clEq b2 ((xorTo x y (k + 1)).map Y) qP (by rw [xorTo, List.map_set]) ?_
    refine T.blkN ?_
    refine T.thenN ?_
    refine T.region ?_
    refine L.addN rfl rfl rfl (by omega) ?_
    refine L.move rfl rfl ?_
    refine L.nil ?_
    refine T.thenN ?_
    exact T.back ⟨k + 1, qT, rfl, rfl, rfl, rfl⟩ qI (.cons (t := 6) rfl <| SubK.nil _) (.cons (t := 2) rfl <| .cons (t := 3) rfl <| .cons (t := 4) rfl <| SubK.nil _) qD qD qF
  · try simp only [decide_eq_true_eq, decide_eq_false_iff_not, Bool.not_eq_true', Bool.not_eq_false', Bool.and_eq_true, Bool.or_eq_true] at h7
    obtain rfl : k = 32 := by omega
    refine T.eqv qP (show cl b2 27 ((xorTo x y 32).map Y) = cl b2 27 ((xorL x y).map Y) from by rw [xorTo_32]) ?_
    have hxL : (xorL x y).length = 32 := by rw [xorL_len]; exact hx
    refine T.exit ?_
    refine T.thenX ?_
    refine T.thenX ?_
    refine T.blkX ?_
    refine T.thenN ?_
    refine T.seq ?_
    refine T.region ?_
    refine L.loadA rfl ag27 rfl qN ?_
    refine L.storeA ag27 rfl rfl qL qO qU qW ?_
    refine L.nil ?_
    refine T.thenN ?_
    refine T.ret ?_
    exact T.retA rfl ag27 rfl qN ⟨rfl, rfl, rfl⟩ qD qF
end Cv
