/-
  The walks: info.Of.
-/
import Derived.Test.YtncgoodlhmpfcaaGreatMN11
set_option linter.all false
set_option maxHeartbeats 400000
set_option maxRecDepth 10000
namespace Cv
open Go Go.Proofs
/-! ## info.Of: the plain model -/
theorem fdiv2 (i j : Nat) : Int.fdiv ((i : Int) + (j : Int)) (2 ^ min (Int.toNat 1) IntKind.u64.bits) = (((i + j) / 2 : Nat) : Int) := by
  have : (2 ^ min (Int.toNat 1) IntKind.u64.bits : Int) = 2 := rfl
  rw [this, Int.fdiv_eq_ediv_of_nonneg _ (by decide)]; omega
def seedS : List UInt8 := [99, 97, 114, 97, 118, 97, 110]
theorem wrS_len (x : Tr) : (wrS x).length ≤ 32768 := by
  unfold wrS
  split
  · rename_i h; rw [List.length_append]; show 4 + _ ≤ _; exact h.2
  · simp
def ofB (x : Tr) : Pt × List Ob × Int := bldM (chnF (gearT seedS) (wrS x))
theorem bsrch_spec {a : Option Addr} {n c : Nat} {l : List ID32} {z : ID32} (hs : l.Pairwise (fun x y => x.1 < y.1)) (hn : n ≤ 1000000) : Spec Tryz.prog 87 [.slice a n c, .agg (iC z).toArray, fnV 49 []] [rsl 32 a n c (l.map iC)] [] (fun v D' M' => ∃ (k : Nat), v = .tuple #[.int .i64 (k : Int), .bool (decide (z ∈ l))] ∧ D' = [] ∧ M' = []) := by
 refine zv (n := 49) Tryz.func87 ?_
 intro σ D M
 refine yU (rows := l.map iC) qM (fun hpl hpc => ?_)
 rw [List.length_map] at hpl
 have hz3 := yw z
 have hz2 := z.2
 refine O (y6 R R R (fun b4 => ?_))
 refine V R R (V R R (zu (zO (A := cl b4 38 (iC z)) qP ?_)))
 refine z8 (O (E R R (yb R yh R (V R R (I (O (E R R (V R R (V R R (I (ze (zD (y8 (fun K' D' M' μ => ∃ (i j : Nat), (HalfI l z i j) ∧ K' = [(9, .int .i64 (i : Int)), (10, .int .i64 (j : Int))] ∧ D' = [] ∧ M' = [] ∧ μ = j - i) (.c 0 R <| .c 2 R <| .c 4 R <| .c 8 R <| zd _) (⟨0, n, ⟨⟨Nat.zero_le _, by omega⟩, fun p h => by omega, fun p h k => by omega⟩, R, R, R, R⟩) (.c 9 R <| .c 10 R <| zd _) qD qS ?_)))))))))))))
 rintro K1 D1 M1 m1 ⟨i, j, hH, rfl, rfl, rfl, rfl⟩
 refine zM qA qA qA ?_
 refine ze (O (E R R (E R R (zW R R R (I (zA R (fun h17 => ?_) (fun h17 => ?_)))))))
 ·try simp only [dq] at h17
  refine zq (z8 (zD (ze ?_)))
  have hle := hH.le
  obtain ⟨h, hh⟩ : ∃ h, h = (i + j) / 2 := ⟨_, rfl⟩
  refine zt (E R R (E R R (zT R R R jO ?_)))
  refine L.convU R xi xI R qI ?_
  refine L.shrI R R R qI ?_
  refine zE (t := 22) (u := .int .u64 (h : Int)) R (congrArg (Value.int .u64) ((fdiv2 i j).trans (congrArg _ hh.symm))) ?_
  refine L.convN R xI xi R qI ?_
  refine zE (t := 23) (u := .int .i64 (h : Int)) R (congrArg (Value.int .i64) jO) ?_
  refine V R R (I (ze ?_))
  have hg0 : l[h]? = some (gd l h) := y9 jO
  have hgr0 : (l.map iC)[h]? = some (iC (gd l h)) := yJ hg0
  have hw0 := yw (gd l h)
  have hv0 := (gd l h).2
  refine T.rslAddr (rows := l.map iC) qM (fun e => by have := congrArg List.length e; rw [List.length_map] at this; simp only [List.length_nil] at this; omega) (fun bo oo ha => ?_)
  subst ha
  refine xg qk qk (E R R (E R R (E R R (L.idxR (i := h) R yh sz38 R R qM jR qI qG ?_))))
  refine zx R zI R (xl qM (hw0)) ?_
  refine zx R zI R qN ?_
  refine L.callVF R R (ev2 R R) qD qS (ocmp_spec (x := gd l h) (y := z)) jF ?_
  refine zW R R R (yY (z8 (zA R (fun h31 => ?_) (fun h31 => ?_))))
  ·try simp only [dq] at h31
   refine zt (E R R (zT R R R jO ?_))
   exact V R R (zu (zS (z8 (zV ⟨h + 1, j, hH.up hs jO jO h31, R, R, R, R⟩ qI (.c 9 R <| .c 10 R <| zd _) (.c 0 R <| .c 2 R <| .c 4 R <| .c 8 R <| zd _) qD qD qF))))
  try simp only [dq] at h31
  exact zt (E R R (V R R (zu (zS (z8 (zV ⟨i, h, hH.down hs jO jO h31, R, R, R, R⟩ qI (.c 9 R <| .c 10 R <| zd _) (.c 0 R <| .c 2 R <| .c 4 R <| .c 8 R <| zd _) qD qD qF))))))
 try simp only [dq] at h17
 have hf := hH.fin hs jO
 have hle := hH.le
 refine y4 (zG (zG (y5 (z8 (ze ?_)))))
 rcases Nat.lt_or_ge i n with hin | hin
 ·have hg0 : l[i]? = some (gd l i) := y9 jO
  have hgr0 : (l.map iC)[i]? = some (iC (gd l i)) := yJ hg0
  have hw0 := yw (gd l i)
  have hv0 := (gd l i).2
  refine T.rslAddr (rows := l.map iC) qM (fun e => by have := congrArg List.length e; rw [List.length_map] at this; simp only [List.length_nil] at this; omega) (fun bo oo ha => ?_)
  subst ha
  refine xg qk qk (E R R (E R R (E R R (zW R R R (E R R (zE (t := 39) R (show _ = Value.bool true from congrArg Value.bool (decide_eq_true jO)) ?_))))))
  refine zj 39 R R R (E R R (zj 39 R R R (E R R (zj 39 R R R (E R R (zj 39 R R R (L.idxR (i := i) R yh sz38 R R qM jR qI qG ?_)))))))
  refine zj 39 R R R (zx R zI R (xl qM (hw0)) ?_)
  refine zj 39 R R R (zx R zI R qN ?_)
  refine zj 39 R R R (L.callVF R R (ev2 R R) qD qS (ocmp_spec (x := gd l i) (y := z)) jF ?_)
  exact zj 39 R R R (yi R R R (ym R R R (V R R (V R R (yY (z8 (zo (x8 R R R ⟨i, by rw [decide_eq_decide.2 (show z ∈ l ↔ cfI (gd l i) z = 0 from hf.trans ⟨fun q => q.2, fun q => ⟨by omega, q⟩⟩)], R, R⟩ qD qF))))))))
 refine xg qk qk (E R R (E R R (E R R (zW R R R (E R R (zE (t := 39) R (show _ = Value.bool false from congrArg Value.bool (decide_eq_false jO)) ?_))))))
 exact zw 39 false R R R R R jD (zw 39 false R R R R R jD (zw 39 false R R R R R jD (zw 39 false R R R R R jD (zw 39 false R R R R R jD (zw 39 false R R R R R jD (zw 39 false R R R R R jD (zw 39 false R R R R R jD (yg R R R (V R R (V R R (yY (z8 (zo (x8 R R R ⟨i, by rw [decide_eq_false (show ¬ z ∈ l from fun q => by have := (hf.1 q).1; omega)], R, R⟩ qD qF))))))))))))))
theorem refers_spec {a : Option Addr} {n c : Nat} {l : List ID32} {p : Pt} {z : ID32} (hs : l.Pairwise (fun x y => x.1 < y.1)) (hn : n ≤ 1000000) : Spec Tryz.prog 128 [.agg (inC p a n c).toArray, .agg (iC z).toArray] [rsl 32 a n c (l.map iC)] [] (fun v D' M' => v = .bool (decide (z ∈ l)) ∧ D' = [] ∧ M' = []) := by
 refine zv (n := 15) Tryz.func128 ?_
 intro σ D M
 have hz3 := yw z
 have hp3 := inC_len p a n c
 have hp32 := p.1.2
 refine O (y6 R R R (fun b2 => ?_))
 refine y6 R R R (fun b3 => ?_)
 refine V R R (I (O (zg R fo75_1 R ?_)))
 refine zf R sc32 R qC ?_
 refine zx R zI R qN ?_
 refine zp R (ev3 R R R) qD qS (bsrch_spec (l := l) (z := z) hs hn) ?_
 rintro _ _ _ ⟨k, rfl, rfl, rfl⟩
 refine zm qA qA ?_
 exact E R R (zr R R R (zr R R R (V R R (V R R (I (O (E R R (V R R (I (zo (zy R R ⟨R, R, R⟩ qD qF)))))))))))
end Cv
