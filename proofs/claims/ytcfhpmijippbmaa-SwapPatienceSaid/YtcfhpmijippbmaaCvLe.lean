/-
  My own library for walks (CvSha): separation logic over the calls of the kit; no statement of this seat stands here.
-/
import Derived.Test.YtcfhpmijippbmaaCvLc
set_option linter.unusedVariables false
set_option linter.unusedSimpArgs false
set_option linter.unusedSectionVars false
namespace Cv
open Go
abbrev W32 := BitVec 32
/-- a word turned to the right -/
def rotr (x : W32) (n : Nat) : W32 := (x <<< (32 - n)) ||| (x >>> n)
theorem rot_s {n : Nat} (h : 1 ≤ n) (k : n ≤ 31) : bitsAnd .u64 (IntKind.u64.wrap (-(n : Int))) 31 = ((32 - n : Nat) : Int) := by
  have : ∀ i : Fin 32, 1 ≤ i.val → bitsAnd .u64 (IntKind.u64.wrap (-(i.val : Int))) 31 = ((32 - i.val : Nat) : Int) := by decide +kernel
  exact this ⟨n, by omega⟩ h
def ks : List W32 := [0x428a2f98#32, 0x71374491#32, 0xb5c0fbcf#32, 0xe9b5dba5#32, 0x3956c25b#32, 0x59f111f1#32, 0x923f82a4#32, 0xab1c5ed5#32,
  0xd807aa98#32, 0x12835b01#32, 0x243185be#32, 0x550c7dc3#32, 0x72be5d74#32, 0x80deb1fe#32, 0x9bdc06a7#32, 0xc19bf174#32,
  0xe49b69c1#32, 0xefbe4786#32, 0x0fc19dc6#32, 0x240ca1cc#32, 0x2de92c6f#32, 0x4a7484aa#32, 0x5cb0a9dc#32, 0x76f988da#32,
  0x983e5152#32, 0xa831c66d#32, 0xb00327c8#32, 0xbf597fc7#32, 0xc6e00bf3#32, 0xd5a79147#32, 0x06ca6351#32, 0x14292967#32,
  0x27b70a85#32, 0x2e1b2138#32, 0x4d2c6dfc#32, 0x53380d13#32, 0x650a7354#32, 0x766a0abb#32, 0x81c2c92e#32, 0x92722c85#32,
  0xa2bfe8a1#32, 0xa81a664b#32, 0xc24b8b70#32, 0xc76c51a3#32, 0xd192e819#32, 0xd6990624#32, 0xf40e3585#32, 0x106aa070#32,
  0x19a4c116#32, 0x1e376c08#32, 0x2748774c#32, 0x34b0bcb5#32, 0x391c0cb3#32, 0x4ed8aa4a#32, 0x5b9cca4f#32, 0x682e6ff3#32,
  0x748f82ee#32, 0x78a5636f#32, 0x84c87814#32, 0x8cc70208#32, 0x90befffa#32, 0xa4506ceb#32, 0xbef9a3f7#32, 0xc67178f2#32]
def iv0 : List W32 := [0x6a09e667#32, 0xbb67ae85#32, 0x3c6ef372#32, 0xa54ff53a#32, 0x510e527f#32, 0x9b05688c#32, 0x1f83d9ab#32, 0x5be0cd19#32]
def nx (ws : List W32) (k : Nat) : W32 := gd ws (k - 16) + gd ws (k - 7) + (rotr (gd ws (k - 15)) 7 ^^^ rotr (gd ws (k - 15)) 18 ^^^ (gd ws (k - 15) >>> 3)) + (rotr (gd ws (k - 2)) 17 ^^^ rotr (gd ws (k - 2)) 19 ^^^ (gd ws (k - 2) >>> 10))
def byteIn (w : W32) (c : UInt8) : W32 := (w <<< 8) ||| BitVec.ofNat 32 c.toNat
def acc (b : List UInt8) (k : Nat) (x : W32) (j : Nat) : W32 := ((b.drop (4 * k)).take j).foldl byteIn x
/-- the words of a block, behind k steps -/
def spr (b : List UInt8) : Nat → List W32
  | 0 => List.replicate 64 0
  | k + 1 => (spr b k).set k (if k < 16 then acc b k (gd (spr b k) k) 4 else nx (spr b k) k)
theorem spr_len (b : List UInt8) : ∀ k, (spr b k).length = 64
  | 0 => by simp [spr]
  | k + 1 => by simp [spr, spr_len b k]
theorem acc_0 {b : List UInt8} {k : Nat} {x : W32} : acc b k x 0 = x := by simp [acc]
theorem acc_s {b : List UInt8} {k j : Nat} {x : W32} (h : 4 * k + j < b.length) : acc b k x (j + 1) = byteIn (acc b k x j) (gd b (4 * k + j)) := by
  have h1 : j < (b.drop (4 * k)).length := by simp; omega
  have e : (b.drop (4 * k)).take (j + 1) = (b.drop (4 * k)).take j ++ [gd b (4 * k + j)] := by
    rw [List.take_succ_eq_append_getElem h1]
    congr 2
    simp [gd, List.getElem_drop, show 4 * k + j < b.length by omega]
  simp [acc, e]
/-- one round -/
def rstep (v : List W32) (k w : W32) : List W32 :=
  match v with
  | [a, b, c, d, e, f, g, h] =>
    let t := h + k + w + (rotr e 6 ^^^ rotr e 11 ^^^ rotr e 25) + ((e &&& f) ||| (~~~ e &&& g))
    let u := (rotr a 2 ^^^ rotr a 13 ^^^ rotr a 22) + ((a &&& (b ||| c)) ||| (b &&& c))
    [t + u, a, b, c, d + t, e, f, g]
  | l => l
def rnds (h ws : List W32) : Nat → List W32
  | 0 => h
  | k + 1 => rstep (rnds h ws k) (gd ks k) (gd ws k)
theorem rstep_len {v : List W32} {k w : W32} (h : v.length = 8) : (rstep v k w).length = 8 := by
  obtain ⟨a, b, c, d, e, f, g, i, rfl⟩ := len8 h
  rfl
theorem rnds_len {h ws : List W32} (hl : h.length = 8) : ∀ k, (rnds h ws k).length = 8
  | 0 => hl
  | k + 1 => rstep_len (rnds_len hl k)
def addS (h v : List W32) : Nat → List W32
  | 0 => h
  | k + 1 => (addS h v k).set k (gd (addS h v k) k + gd v k)
theorem addS_len (h v : List W32) : ∀ k, (addS h v k).length = h.length
  | 0 => rfl
  | k + 1 => by simp [addS, addS_len h v k]
/-- the words behind a block -/
def blockF (h : List W32) (b : List UInt8) : List W32 := addS h (rnds h (spr b 64) 64) 8
theorem blockF_len {h : List W32} {b : List UInt8} : (blockF h b).length = h.length := addS_len _ _ _
end Cv
namespace Cv
open Go
/-- whole blocks are taken: the words, and the bytes that are left -/
def eat (h : List W32) (p : List UInt8) : List W32 × List UInt8 := if 64 ≤ p.length then eat (blockF h (p.take 64)) (p.drop 64) else (h, p)
termination_by p.length
theorem eat_ge {h : List W32} {p : List UInt8} (hp : 64 ≤ p.length) : eat h p = eat (blockF h (p.take 64)) (p.drop 64) := by rw [eat, if_pos hp]
theorem eat_lt {h : List W32} {p : List UInt8} (hp : p.length < 64) : eat h p = (h, p) := by rw [eat, if_neg (by omega)]
theorem eat_len {h : List W32} {p : List UInt8} (hl : h.length = 8) : (eat h p).1.length = 8 ∧ (eat h p).2.length < 64 ∧ (eat h p).2.length ≤ p.length := by
  induction h, p using eat.induct with
  | case1 h p hp ih =>
    rw [eat_ge hp]
    have := ih (by rw [blockF_len]; exact hl)
    refine ⟨this.1, this.2.1, ?_⟩
    have h2 := this.2.2
    rw [List.length_drop] at h2
    omega
  | case2 h p hp => rw [eat_lt (by omega)]; exact ⟨hl, by simp only; omega, Nat.le_refl _⟩
theorem eat_append {h : List W32} {p l : List UInt8} : eat h (p ++ l) = eat (eat h p).1 ((eat h p).2 ++ l) := by
  induction h, p using eat.induct with
  | case1 h p hp ih =>
    rw [eat_ge (by simp; omega), List.take_append_of_le_length hp, List.drop_append_of_le_length hp, ih, ← eat_ge hp]
  | case2 h p hp => rw [eat_lt (h := h) (p := p) (by omega)]
/-- the state behind a message -/
def shH (m : List UInt8) : List W32 := (eat iv0 m).1
def shP (m : List UInt8) : List UInt8 := (eat iv0 m).2
theorem sh_len (m : List UInt8) : (shH m).length = 8 ∧ (shP m).length < 64 ∧ (shP m).length ≤ m.length := eat_len rfl
theorem sh_append (m l : List UInt8) : eat (shH m) (shP m ++ l) = (shH (m ++ l), shP (m ++ l)) := eat_append.symm
theorem shP_len (m : List UInt8) : (shP m).length = m.length % 64 := by
  have : ∀ (h : List W32) (p : List UInt8), (eat h p).2.length = p.length % 64 := by
    intro h p
    induction h, p using eat.induct with
    | case1 h p hp ih => rw [eat_ge hp, ih, List.length_drop]; omega
    | case2 h p hp => rw [eat_lt (by omega)]; simp only; omega
  exact this _ _
/-- how many zeros follow -/
def zn (k : Nat) : Nat := if k ≤ 55 then 55 - k else 119 - k
def lb (n : Int) (j : Nat) : UInt8 := UInt8.ofNat ((n * 8).fdiv (2 ^ (min (8 * (7 - (j : Int))).toNat 64)) % 256).toNat
def lenb (n : Int) : Nat → List UInt8
  | 0 => []
  | j + 1 => lenb n j ++ [lb n j]
theorem lenb_len (n : Int) : ∀ j, (lenb n j).length = j
  | 0 => rfl
  | j + 1 => by simp [lenb, lenb_len n j]
def padded (m : List UInt8) (j : Nat) : List UInt8 := shP m ++ [128] ++ List.replicate j 0
def padF (m : List UInt8) : List UInt8 := padded m (zn (shP m).length) ++ lenb m.length 8
theorem padF_len (m : List UInt8) : (padF m).length % 64 = 0 := by
  have h := (sh_len m).2.1
  simp only [padF, padded, List.length_append, List.length_replicate, lenb_len, List.length_singleton, zn]
  split <;> omega
def ob (h : List W32) (i : Nat) : UInt8 := UInt8.ofNat ((gd h (i / 4)) >>> (24 - 8 * (i % 4))).toNat
def outF (h : List W32) : Nat → List UInt8
  | 0 => List.replicate 32 0
  | i + 1 => (outF h i).set i (ob h i)
theorem outF_len (h : List W32) : ∀ i, (outF h i).length = 32
  | 0 => by simp [outF]
  | i + 1 => by simp [outF, outF_len h i]
/-- the sum -/
def digest (m : List UInt8) : List UInt8 := outF (eat (shH m) (padF m)).1 32
theorem digest_len (m : List UInt8) : (digest m).length = 32 := outF_len _ _
end Cv
namespace Cv
open Go
/-- a string as a row -/
@[reducible] def ys (l : List UInt8) : List Value := [S l]
theorem take_flat_s {α : Type} {ls : List (List α)} {k : Nat} (h : k < ls.length) : (ls.take (k + 1)).flatten = (ls.take k).flatten ++ gd ls k := by
  rw [List.take_succ_eq_append_getElem h, List.flatten_append]
  simp only [List.flatten_cons, List.flatten_nil, List.append_nil]
  congr 1
  simp [gd, h]
theorem take_flat_le {α : Type} (ls : List (List α)) (k : Nat) : (ls.take k).flatten.length ≤ ls.flatten.length := by
  have : ls.flatten = (ls.take k).flatten ++ (ls.drop k).flatten := by rw [← List.flatten_append, List.take_append_drop]
  rw [this, List.length_append]; omega
theorem shH_nil : shH [] = iv0 := by unfold shH; rw [eat_lt (by simp)]
theorem shP_nil : shP [] = [] := by unfold shP; rw [eat_lt (by simp)]
def nb (n : Int) (j : Nat) : UInt8 := UInt8.ofNat (n.fdiv (2 ^ (min (8 * (3 - (j : Int))).toNat 64)) % 256).toNat
def nbs (n : Int) : Nat → List UInt8
  | 0 => []
  | j + 1 => nbs n j ++ [nb n j]
theorem nbs_len (n : Int) : ∀ j, (nbs n j).length = j
  | 0 => rfl
  | j + 1 => by simp [nbs, nbs_len n j]
def kb (kind : Int) : UInt8 := UInt8.ofNat (kind % 256).toNat
def oidHead (kind : Int) (n : Nat) : List UInt8 := [99, 114, 118, kb kind] ++ nbs n 4
/-- the name of an object -/
def oidF (kind : Int) (t : List UInt8) : List UInt8 := digest (oidHead kind t.length ++ t)
theorem oidF_len (kind : Int) (t : List UInt8) : (oidF kind t).length = 32 := digest_len _
end Cv
namespace Cv
theorem zn_iff {k j : Nat} (hk : k < 64) (hj : j ≤ zn k) : (k + 1 + j) % 64 = 56 ↔ j = zn k := by
  by_cases h : k ≤ 55
  · have e : zn k = 55 - k := if_pos h
    omega
  · have e : zn k = 119 - k := if_neg h
    omega
theorem zn_le {k : Nat} : zn k ≤ 119 := by unfold zn; split <;> omega
end Cv
namespace Cv
theorem digest_short {m : List UInt8} (h : m.length ≤ 55) : digest m = outF (blockF iv0 (m ++ [128] ++ List.replicate (55 - m.length) 0 ++ lenb m.length 8)) 32 := by
  have h1 : eat iv0 m = (iv0, m) := eat_lt (by omega)
  have h2 : shH m = iv0 := by simp [shH, h1]
  have h3 : shP m = m := by simp [shP, h1]
  have h4 : padF m = m ++ [128] ++ List.replicate (55 - m.length) 0 ++ lenb m.length 8 := by
    simp only [padF, padded, h3, zn, if_pos h]
  have hl : (padF m).length = 64 := by rw [h4]; simp [lenb_len]; omega
  rw [digest, h2, eat_ge (by omega), List.take_of_length_le (by omega), List.drop_of_length_le (by omega), eat_lt (by simp), h4]
end Cv
