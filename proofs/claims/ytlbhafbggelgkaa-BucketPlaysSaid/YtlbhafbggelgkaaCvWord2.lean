/-
  My own library for walks, a text of it (CvWord2): separation logic over the kit's Calls; no statement of this seat stands here.
-/
import Derived.Test.YtlbhafbggelgkaaCvFn
import Derived.Test.YtlbhafbggelgkaaCvSha
import Derived.KernelRfl
set_option linter.unusedVariables false
set_option linter.unusedSimpArgs false
set_option linter.unusedSectionVars false
namespace Cv
open Go
@[reducible] def wr (x : W32) : List Value := [W x]
theorem One.wr {l : List W32} : ∀ u ∈ (l.map wr).flatten, u.oneCell' = true := by
  intro u hu
  obtain ⟨r, hr, hu⟩ := List.mem_flatten.1 hu
  obtain ⟨x, _, rfl⟩ := List.mem_map.1 hr
  simp only [Cv.wr, List.mem_singleton] at hu
  subst hu; rfl
section
variable {P : Program} {σ : World} {n : Nat} {Q : Post} {K : Env} {D M : List Asn} {m : Option (List Asn × List Asn)} {ops : Array Oper} {rest : List Oper} {d : Nat} {ty : TypeId} {pos : String} {aft : Array Edge} {x y : Operand} {t t' : TypeId} {a b : BitVec 32}
theorem wrap_u32_nat {k : Nat} (h : k < 4294967296) : IntKind.u32.wrap (k : Int) = k := by
  rw [wrap_u32]
  have : (BitVec.ofInt 32 (k : Int)).toNat = k := by
    rw [BitVec.ofInt_natCast, BitVec.toNat_ofNat, Nat.mod_eq_of_lt h]
  rw [this]
theorem L.divW (hd : Nat.blt d n = true) (hx : ev K x = some (W a)) (hy : ev K y = some (W b)) (hb : b.toNat ≠ 0) (next : TL m P σ n ops Q rest ((d, W (a / b)) :: K) D M) :
    TL m P σ n ops Q (⟨some d, .binOp .quo t x y t', ty, pos, aft, none⟩ :: rest) K D M := by
  refine L.quoI hd hx hy (by omega) ?_
  have h1 : ((a.toNat : Int).tdiv (b.toNat : Int)) = ((a / b).toNat : Int) := by
    rw [BitVec.toNat_udiv]; rfl
  rw [h1, wrap_u32_nat (a / b).isLt]
  exact next
theorem L.remW (hd : Nat.blt d n = true) (hx : ev K x = some (W a)) (hy : ev K y = some (W b)) (hb : b.toNat ≠ 0) (next : TL m P σ n ops Q rest ((d, W (a % b)) :: K) D M) :
    TL m P σ n ops Q (⟨some d, .binOp .rem t x y t', ty, pos, aft, none⟩ :: rest) K D M := by
  refine L.remI hd hx hy (by omega) ?_
  have h1 : ((a.toNat : Int).tmod (b.toNat : Int)) = ((a % b).toNat : Int) := by
    rw [BitVec.toNat_umod]; rfl
  rw [h1]
  exact next
end
/-! ## the reference's words -/
theorem bit_and_zero {x : W32} {n : Nat} (h1 : 1 ≤ n) (h2 : n ≤ 31) : (x >>> n) &&& (x <<< (32 - n)) = 0#32 := by
  ext i hi
  simp only [BitVec.getElem_and, BitVec.getElem_ushiftRight, BitVec.getElem_shiftLeft, BitVec.getElem_zero]
  by_cases h : i < 32 - n
  · simp [h]
  · have : x.getLsbD (n + i) = false := BitVec.getLsbD_of_ge _ _ (by omega)
    simp [this]
theorem ror_eq {x : W32} {n : Nat} (h1 : 1 ≤ n) (h2 : n ≤ 31) : (x >>> n) + (x <<< (32 - n)) = rotr x n := by
  rw [BitVec.add_eq_or_of_and_eq_zero _ _ (bit_and_zero h1 h2), BitVec.or_comm]; rfl
theorem ch_eq {e f g : W32} : (e &&& f) ^^^ (~~~ e &&& g) = (e &&& f) ||| (~~~ e &&& g) := by
  ext i hi
  simp only [BitVec.getElem_xor, BitVec.getElem_or, BitVec.getElem_and, BitVec.getElem_not]
  cases e[i] <;> cases f[i] <;> cases g[i] <;> rfl
theorem maj_eq {a b c : W32} : (a &&& b) ^^^ (a &&& c) ^^^ (b &&& c) = (a &&& (b ||| c)) ||| (b &&& c) := by
  ext i hi
  simp only [BitVec.getElem_xor, BitVec.getElem_or, BitVec.getElem_and]
  cases a[i] <;> cases b[i] <;> cases c[i] <;> rfl
def wb (x : W32) : List UInt8 := [UInt8.ofNat (x >>> 24).toNat, UInt8.ofNat (x >>> 16).toNat, UInt8.ofNat (x >>> 8).toNat, UInt8.ofNat (x >>> 0).toNat]
theorem u8_eq {a b : Nat} (h : a % 256 = b % 256) : UInt8.ofNat a = UInt8.ofNat b := by
  apply UInt8.toNat_inj.1
  rw [UInt8.toNat_ofNat', UInt8.toNat_ofNat']; exact h
theorem wb_eq (x : W32) : [UInt8.ofNat (x / 16777216#32).toNat, UInt8.ofNat (x / 65536#32 % 256#32).toNat, UInt8.ofNat (x / 256#32 % 256#32).toNat, UInt8.ofNat (x % 256#32).toNat] = wb x := by
  have h := x.isLt
  have e0 : UInt8.ofNat (x / 16777216#32).toNat = UInt8.ofNat (x >>> 24).toNat := by
    apply u8_eq
    rw [BitVec.toNat_udiv, BitVec.toNat_ushiftRight, Nat.shiftRight_eq_div_pow]
    show (x.toNat / 16777216) % 256 = (x.toNat / 16777216) % 256
    rfl
  have e1 : UInt8.ofNat (x / 65536#32 % 256#32).toNat = UInt8.ofNat (x >>> 16).toNat := by
    apply u8_eq
    rw [BitVec.toNat_umod, BitVec.toNat_udiv, BitVec.toNat_ushiftRight, Nat.shiftRight_eq_div_pow]
    show (x.toNat / 65536 % 256) % 256 = (x.toNat / 65536) % 256
    omega
  have e2 : UInt8.ofNat (x / 256#32 % 256#32).toNat = UInt8.ofNat (x >>> 8).toNat := by
    apply u8_eq
    rw [BitVec.toNat_umod, BitVec.toNat_udiv, BitVec.toNat_ushiftRight, Nat.shiftRight_eq_div_pow]
    show (x.toNat / 256 % 256) % 256 = (x.toNat / 256) % 256
    omega
  have e3 : UInt8.ofNat (x % 256#32).toNat = UInt8.ofNat (x >>> 0).toNat := by
    apply u8_eq
    rw [BitVec.toNat_umod, BitVec.toNat_ushiftRight, Nat.shiftRight_eq_div_pow]
    show (x.toNat % 256) % 256 = (x.toNat / 1) % 256
    omega
  rw [e0, e1, e2, e3]; rfl
theorem wb_len (x : W32) : (wb x).length = 4 := rfl
def wd (b0 b1 b2 b3 : UInt8) : W32 := BitVec.ofNat 32 b0.toNat * 16777216#32 + BitVec.ofNat 32 b1.toNat * 65536#32 + BitVec.ofNat 32 b2.toNat * 256#32 + BitVec.ofNat 32 b3.toNat
theorem byteIn_nat {w : W32} {c : UInt8} (h : w.toNat < 16777216) : (byteIn w c).toNat = w.toNat * 256 + c.toNat := by
  have hc := c.toNat_lt
  have e : byteIn w c = (w <<< 8) + BitVec.ofNat 32 c.toNat := by
    unfold byteIn
    rw [BitVec.add_eq_or_of_and_eq_zero]
    ext i hi
    simp only [BitVec.getElem_and, BitVec.getElem_shiftLeft, BitVec.getElem_zero]
    by_cases h8 : i < 8
    · simp [h8]
    · have : (BitVec.ofNat 32 c.toNat)[i] = false := by
        rw [← BitVec.getLsbD_eq_getElem, BitVec.getLsbD_ofNat]
        have : c.toNat.testBit i = false := Nat.testBit_lt_two_pow (Nat.lt_of_lt_of_le hc (Nat.pow_le_pow_right (by omega) (by omega)))
        simp [this]
      simp [this]
  have e3 : (BitVec.ofNat 32 c.toNat).toNat = c.toNat := by rw [BitVec.toNat_ofNat]; omega
  rw [e, BitVec.toNat_add, BitVec.toNat_shiftLeft, e3, Nat.shiftLeft_eq]
  generalize w.toNat = x at *
  generalize c.toNat = y at *
  rw [Nat.mod_eq_of_lt (a := x * 2 ^ 8) (by omega)]
  omega
theorem wd_eq {b0 b1 b2 b3 : UInt8} : byteIn (byteIn (byteIn (byteIn 0 b0) b1) b2) b3 = wd b0 b1 b2 b3 := by
  have h0 := b0.toNat_lt; have h1 := b1.toNat_lt; have h2 := b2.toNat_lt; have h3 := b3.toNat_lt
  apply BitVec.eq_of_toNat_eq
  have e0 : (byteIn 0 b0).toNat = b0.toNat := by rw [byteIn_nat (by decide)]; simp
  have e1 : (byteIn (byteIn 0 b0) b1).toNat = b0.toNat * 256 + b1.toNat := by rw [byteIn_nat (by omega), e0]
  have e2 : (byteIn (byteIn (byteIn 0 b0) b1) b2).toNat = (b0.toNat * 256 + b1.toNat) * 256 + b2.toNat := by rw [byteIn_nat (by omega), e1]
  have e : ∀ b : UInt8, (BitVec.ofNat 32 b.toNat).toNat = b.toNat := fun b => by have := b.toNat_lt; rw [BitVec.toNat_ofNat]; omega
  have c1 : (16777216#32).toNat = 16777216 := rfl
  have c2 : (65536#32).toNat = 65536 := rfl
  have c3 : (256#32).toNat = 256 := rfl
  rw [byteIn_nat (by omega), e2]
  unfold wd
  rw [BitVec.toNat_add, BitVec.toNat_add, BitVec.toNat_add, BitVec.toNat_mul, BitVec.toNat_mul, BitVec.toNat_mul, e, e, e, e, c1, c2, c3]
  clear e0 e1 e2 e c1 c2 c3
  generalize b0.toNat = x0 at *
  generalize b1.toNat = x1 at *
  generalize b2.toNat = x2 at *
  generalize b3.toNat = x3 at *
  rw [Nat.mod_eq_of_lt (a := x0 * 16777216) (by omega), Nat.mod_eq_of_lt (a := x1 * 65536) (by omega), Nat.mod_eq_of_lt (a := x2 * 256) (by omega)]
  omega
/-! ## the schedule -/
theorem spr_keep {b : List UInt8} {k j : Nat} (h : k ≤ 64) (hj : j < k) : ∀ i, i + k ≤ 64 → gd (spr b (k + i)) j = gd (spr b k) j
  | 0, _ => rfl
  | i + 1, hi => by
    show gd (spr b (k + i + 1)) j = _
    rw [spr, gd_set (by rw [spr_len]; omega), if_neg (by omega)]
    exact spr_keep h hj i (by omega)
theorem spr_zero {b : List UInt8} {j : Nat} (hj : j < 64) : ∀ k, k ≤ j → gd (spr b k) j = 0
  | 0, _ => by
    unfold spr gd
    rw [List.getD_eq_getElem?_getD, List.getElem?_replicate, if_pos hj]; rfl
  | k + 1, hk => by
    rw [spr, gd_set (by rw [spr_len]; omega), if_neg (by omega)]
    exact spr_zero hj k (by omega)
theorem spr_at {b : List UInt8} {k : Nat} (hk : k < 64) : gd (spr b 64) k = if k < 16 then acc b k 0 4 else nx (spr b 64) k := by
  have e1 : gd (spr b 64) k = gd (spr b (k + 1)) k := by
    have := spr_keep (b := b) (k := k + 1) (j := k) (by omega) (by omega) (63 - k) (by omega)
    rwa [show k + 1 + (63 - k) = 64 by omega] at this
  have e2 : ∀ j, j < k → gd (spr b k) j = gd (spr b 64) j := fun j hj => by
    have := spr_keep (b := b) (k := k) (j := j) (by omega) hj (64 - k) (by omega)
    rw [show k + (64 - k) = 64 by omega] at this
    exact this.symm
  rw [e1, spr, gd_set (by rw [spr_len]; omega), if_pos rfl]
  split
  · rw [spr_zero hk k (by omega)]
  · rename_i h
    unfold nx
    rw [e2 _ (by omega), e2 _ (by omega), e2 _ (by omega), e2 _ (by omega)]
theorem take_gd {α : Type} [Inhabited α] {l : List α} {k : Nat} (h : k < l.length) : l.take (k + 1) = l.take k ++ [gd l k] := by
  rw [List.take_succ_eq_append_getElem h]; simp [gd, h]
theorem gd_take {α : Type} [Inhabited α] {l : List α} {k j : Nat} (h : j < k) : gd (l.take k) j = gd l j := by
  simp [gd, List.getElem?_take_of_lt h]
theorem acc4 {b : List UInt8} {k : Nat} (h : 4 * k + 4 ≤ b.length) : acc b k 0 4 = wd (gd b (4 * k)) (gd b (4 * k + 1)) (gd b (4 * k + 2)) (gd b (4 * k + 3)) := by
  rw [acc_s (j := 3) (by omega), acc_s (j := 2) (by omega), acc_s (j := 1) (by omega), acc_s (j := 0) (by omega), acc_0]
  exact wd_eq
theorem nx_eq {ws : List W32} {k : Nat} : gd ws (k - 16) + (rotr (gd ws (k - 15)) 7 ^^^ rotr (gd ws (k - 15)) 18 ^^^ gd ws (k - 15) / 8#32) + gd ws (k - 7) + (rotr (gd ws (k - 2)) 17 ^^^ rotr (gd ws (k - 2)) 19 ^^^ gd ws (k - 2) / 1024#32) = nx ws k := by
  have d8 : ∀ x : W32, x / 8#32 = x >>> 3 := fun x => by
    apply BitVec.eq_of_toNat_eq; rw [BitVec.toNat_udiv, BitVec.toNat_ushiftRight, Nat.shiftRight_eq_div_pow]; rfl
  have d10 : ∀ x : W32, x / 1024#32 = x >>> 10 := fun x => by
    apply BitVec.eq_of_toNat_eq; rw [BitVec.toNat_udiv, BitVec.toNat_ushiftRight, Nat.shiftRight_eq_div_pow]; rfl
  rw [d8, d10]
  unfold nx
  rw [BitVec.add_assoc (gd ws (k - 16)) _ (gd ws (k - 7)), BitVec.add_comm _ (gd ws (k - 7)), ← BitVec.add_assoc (gd ws (k - 16))]
/-! ## the sum of the words -/
theorem addS_gd {h v : List W32} : ∀ k j, k ≤ h.length → j < h.length → gd (addS h v k) j = if j < k then gd h j + gd v j else gd h j
  | 0, j, _, _ => by simp [addS]
  | k + 1, j, hk, hj => by
    rw [addS, gd_set (by rw [addS_len]; omega), addS_gd k k (by omega) (by omega), addS_gd k j (by omega) hj]
    by_cases e : k = j
    · subst e; rw [if_pos rfl, if_neg (by omega), if_pos (by omega)]
    · rw [if_neg e]
      by_cases h2 : j < k
      · rw [if_pos h2, if_pos (by omega)]
      · rw [if_neg h2, if_neg (by omega)]
theorem blockF_gd {h : List W32} {b : List UInt8} {j : Nat} (hl : h.length = 8) (hj : j < 8) : gd (blockF h b) j = gd h j + gd (rnds h (spr b 64) 64) j := by
  unfold blockF; rw [addS_gd 8 j (by omega) (by omega), if_pos hj]
theorem outF_wb {h : List W32} (hl : h.length = 8) : outF h 32 = (h.map wb).flatten := by
  obtain ⟨v0, v1, v2, v3, v4, v5, v6, v7, rfl⟩ := len8 hl
  kernel_rfl
/-- the padding of the reference -/
def padR (n : Nat) : List UInt8 := [128] ++ List.replicate (zn (n % 64)) 0 ++ (wb (BitVec.ofNat 32 (n / 536870912)) ++ wb (BitVec.ofNat 32 (n % 536870912 * 8)))
theorem lenb_wb {n : Nat} (h : n < 2305843009213693952) : lenb n 8 = wb (BitVec.ofNat 32 (n / 536870912)) ++ wb (BitVec.ofNat 32 (n % 536870912 * 8)) := by
  have key : ∀ (j s : Nat) (w : W32), j < 8 → (n * 8 / 2 ^ (8 * (7 - j))) % 256 = (w.toNat / 2 ^ s) % 256 → lb n j = UInt8.ofNat (w >>> s).toNat := by
    intro j s w hj e
    unfold lb
    apply u8_eq
    rw [BitVec.toNat_ushiftRight, Nat.shiftRight_eq_div_pow, ← e]
    have e1 : min (8 * (7 - (j : Int))).toNat 64 = 8 * (7 - j) := by omega
    rw [e1]
    have e2 : ((n : Int) * 8).fdiv (2 ^ (8 * (7 - j))) = ((n * 8 / 2 ^ (8 * (7 - j)) : Nat) : Int) := by
      rw [Int.fdiv_eq_ediv_of_nonneg _ (by exact Int.pow_nonneg (by decide))]
      simp
    rw [e2]
    omega
  have w1 : (BitVec.ofNat 32 (n / 536870912)).toNat = n / 536870912 := by rw [BitVec.toNat_ofNat]; omega
  have w2 : (BitVec.ofNat 32 (n % 536870912 * 8)).toNat = n % 536870912 * 8 := by rw [BitVec.toNat_ofNat]; omega
  have p : lenb n 8 = [lb n 0, lb n 1, lb n 2, lb n 3, lb n 4, lb n 5, lb n 6, lb n 7] := rfl
  rw [p, key 0 24 _ (by omega) (by rw [w1]; omega), key 1 16 _ (by omega) (by rw [w1]; omega), key 2 8 _ (by omega) (by rw [w1]; omega), key 3 0 _ (by omega) (by rw [w1]; omega),
    key 4 24 (BitVec.ofNat 32 (n % 536870912 * 8)) (by omega) (by rw [w2]; omega), key 5 16 (BitVec.ofNat 32 (n % 536870912 * 8)) (by omega) (by rw [w2]; omega), key 6 8 (BitVec.ofNat 32 (n % 536870912 * 8)) (by omega) (by rw [w2]; omega), key 7 0 (BitVec.ofNat 32 (n % 536870912 * 8)) (by omega) (by rw [w2]; omega)]
  rfl
theorem digest_ref {m : List UInt8} (h : m.length < 2305843009213693952) : digest m = ((eat iv0 (m ++ padR m.length)).1.map wb).flatten := by
  have e1 : padF m = shP m ++ padR m.length := by
    unfold padF padded padR
    rw [lenb_wb h, shP_len, List.append_assoc, List.append_assoc, List.append_assoc]
  have e2 : eat (shH m) (padF m) = eat iv0 (m ++ padR m.length) := by
    rw [e1]; exact eat_append.symm
  unfold digest
  rw [e2]
  exact outF_wb (eat_len rfl).1
theorem padR_len {n : Nat} : (n + (padR n).length) % 64 = 0 := by
  unfold padR
  simp only [List.length_append, List.length_replicate, List.length_singleton, wb_len, zn]
  split <;> omega
end Cv
namespace Cv
theorem zn_lt {k : Nat} (h : k < 64) : zn k ≤ 63 := by unfold zn; split <;> omega
end Cv
namespace Cv
theorem gd_drop {α : Type} [Inhabited α] {l : List α} {k j : Nat} : gd (l.drop k) j = gd l (k + j) := by simp [gd]
theorem take_get {α : Type} [Inhabited α] {l : List α} {k j : Nat} (h : j < k) (hk : k ≤ l.length) : (l.take k)[j]? = some (gd l j) := by
  rw [List.getElem?_take_of_lt h]; exact gd_get (by omega)
theorem sch_word {b : List UInt8} {i : Nat} (hb : b.length = 64) (hi : i < 16) : wd (gd ((b.take b.length).drop (4 * i)) 0) (gd ((b.take b.length).drop (4 * i)) 1) (gd ((b.take b.length).drop (4 * i)) 2) (gd ((b.take b.length).drop (4 * i)) 3) = gd (spr b 64) i := by
  rw [List.take_length, gd_drop, gd_drop, gd_drop, gd_drop, spr_at (by omega), if_pos hi, acc4 (by omega)]; rfl
theorem t_eq {v s e f g k w : W32} : v + s + ((e &&& f) ^^^ (~~~ e &&& g)) + k + w = v + k + w + s + ((e &&& f) ||| (~~~ e &&& g)) := by
  rw [ch_eq]; ac_rfl
theorem rnds_step {h ws : List W32} {i : Nat} {v0 v1 v2 v3 v4 v5 v6 v7 : W32} (hv : rnds h ws i = [v0, v1, v2, v3, v4, v5, v6, v7]) : ((rnds h ws (i + 1)).map wr).flatten =
    [W (v7 + gd ks i + gd ws i + (rotr v4 6 ^^^ rotr v4 11 ^^^ rotr v4 25) + ((v4 &&& v5) ||| (~~~ v4 &&& v6)) + ((rotr v0 2 ^^^ rotr v0 13 ^^^ rotr v0 22) + ((v0 &&& (v1 ||| v2)) ||| (v1 &&& v2)))), W v0, W v1, W v2,
      W (v3 + (v7 + gd ks i + gd ws i + (rotr v4 6 ^^^ rotr v4 11 ^^^ rotr v4 25) + ((v4 &&& v5) ||| (~~~ v4 &&& v6)))), W v4, W v5, W v6] := by
  rw [rnds, hv]; rfl
theorem eat_block {h : List W32} {p : List UInt8} {i : Nat} (hi : i + 64 ≤ p.length) : eat h (p.drop i) = eat (blockF h ((p.take (i + 64)).drop i)) (p.drop (i + 64)) := by
  rw [eat_ge (by simp; omega), List.drop_drop, List.drop_take, show i + 64 - i = 64 by omega]
theorem eat_done {h : List W32} {p : List UInt8} : eat h (p.drop p.length) = (h, []) := by rw [List.drop_length, eat_lt (by simp)]
theorem kb_tmod {kind : Int} : UInt8.ofNat ((kind.tmod 256) % 256).toNat = kb kind := by
  unfold kb
  congr 2
  have := Int.tmod_eq_emod (a := kind) (b := 256)
  split at this <;> omega
theorem nbs_wb {n : Nat} : nbs n 4 = wb (BitVec.ofNat 32 n) := by
  have key : ∀ (j s : Nat), j < 4 → s = 24 - 8 * j → nb n j = UInt8.ofNat ((BitVec.ofNat 32 n) >>> s).toNat := by
    intro j s hj hs
    unfold nb
    apply u8_eq
    rw [BitVec.toNat_ushiftRight, Nat.shiftRight_eq_div_pow, BitVec.toNat_ofNat]
    have e1 : min (8 * (3 - (j : Int))).toNat 64 = s := by omega
    rw [e1]
    have e2 : (n : Int).fdiv (2 ^ s) = ((n / 2 ^ s : Nat) : Int) := by
      rw [Int.fdiv_eq_ediv_of_nonneg _ (by exact Int.pow_nonneg (by decide))]
      simp
    rw [e2]
    have : s = 0 ∨ s = 8 ∨ s = 16 ∨ s = 24 := by omega
    rcases this with h | h | h | h <;> subst h <;> omega
  have p : nbs n 4 = [nb n 0, nb n 1, nb n 2, nb n 3] := rfl
  rw [p, key 0 24 (by omega) rfl, key 1 16 (by omega) rfl, key 2 8 (by omega) rfl, key 3 0 (by omega) rfl]
  rfl
end Cv
namespace Cv
theorem padR_le (n : Nat) : (padR n).length ≤ 200 := by
  unfold padR
  simp only [List.length_append, List.length_replicate, List.length_singleton, wb_len]
  have := zn_le (k := n % 64)
  omega
theorem flat_wb (h : List W32) (k : Nat) : ((h.take k).map wb).flatten.length ≤ 4 * k := by
  have : ∀ l : List W32, (l.map wb).flatten.length = 4 * l.length := by
    intro l
    induction l with
    | nil => rfl
    | cons x l ih => simp only [List.map_cons, List.flatten_cons, List.length_append, wb_len, ih, List.length_cons]; omega
  rw [this, List.length_take]; omega
end Cv
