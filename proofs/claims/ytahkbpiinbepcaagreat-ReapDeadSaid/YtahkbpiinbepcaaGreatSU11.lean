/-
  The walks: the reference of names.
-/
import Derived.Test.YtahkbpiinbepcaaGreatOa11
import Derived.Test.YtahkbpiinbepcaaGreatD06
import Derived.Test.YtahkbpiinbepcaaGreatProg
import Derived.KernelRfl
set_option linter.unusedVariables false
set_option linter.unusedSimpArgs false
set_option linter.unusedSectionVars false
set_option maxHeartbeats 400000
set_option maxRecDepth 10000
namespace Cv
open Go Go.Proofs
/-! ## the reference's reader of names: plain -/
def idsS : Nat → Bl → List (List UInt8) × Bl
  | 0, b => ([], b)
  | n + 1, b => if b.err ≠ 0 then ([], b) else ((bytB b 32).1 :: (idsS n (bytB b 32).2).1, (idsS n (bytB b 32).2).2)
theorem idsL_err {n : Nat} {b : Bl} (h : b.err ≠ 0) : (idsL n b).2 = b := by
  cases n with
  | zero => rfl
  | succ n => rw [idsL, if_pos h]
theorem ids_eq : ∀ (n : Nat) (b : Bl), (idsS n b).2 = (idsL n b).2 ∧ ((idsL n b).2.err = 0 → (idsS n b).1 = (idsL n b).1.map (·.1))
  | 0, _ => ⟨rfl, fun _ => rfl⟩
  | n + 1, b => by
    rw [idsS, idsL]
    by_cases h : b.err ≠ 0
    · rw [if_pos h, if_pos h]; exact ⟨rfl, fun _ => rfl⟩
    · rw [if_neg h, if_neg h]
      have e : (idR b).2 = (bytB b 32).2 := rfl
      obtain ⟨h1, h2⟩ := ids_eq n (bytB b 32).2
      rw [← e] at h1 h2 ⊢
      refine ⟨h1, fun h3 => ?_⟩
      have h4 : (idR b).2.err = 0 := Decidable.byContradiction fun k => by
        have := idsL_err (n := n) k
        rw [this] at h3; exact k h3
      show (bytB b 32).1 :: (idsS n (idR b).2).1 = _
      rw [h2 h3, List.map_cons, id_val h4]
structure IdsJ (b : Bl) (n i : Nat) (q : Bl) (acc : List (List UInt8)) : Prop where
  r1 : (idsS n b).1 = acc ++ (idsS (n - i) q).1
  r2 : (idsS n b).2 = (idsS (n - i) q).2
  le : i ≤ n ∧ acc.length = i
theorem IdsJ.start {b : Bl} {n : Nat} : IdsJ b n 0 b [] := ⟨rfl, rfl, Nat.zero_le _, rfl⟩
theorem IdsJ.next {b q : Bl} {n i : Nat} {acc : List (List UInt8)} (h : IdsJ b n i q acc) (hi : i < n) (e : q.err = 0) : IdsJ b n (i + 1) (bytB q 32).2 (acc ++ [(bytB q 32).1]) := by
  obtain ⟨h1, h2, h3⟩ := h
  rw [show n - i = (n - (i + 1)) + 1 by omega, idsS, if_neg (fun k => k e)] at h1 h2
  exact ⟨by rw [h1]; simp, h2, by omega, by rw [List.length_append, h3.2]; rfl⟩
theorem IdsJ.stop {b q : Bl} {n i : Nat} {acc : List (List UInt8)} (h : IdsJ b n i q acc) (e : ¬ i < n ∨ q.err ≠ 0) : idsS n b = (acc, q) := by
  obtain ⟨h1, h2, h3⟩ := h
  have : idsS (n - i) q = ([], q) := by
    rcases Nat.lt_or_ge i n with k | k
    · rw [show n - i = (n - (i + 1)) + 1 by omega, idsS, if_pos (by rcases e with e | e <;> first | exact absurd k e | exact e)]
    · rw [show n - i = 0 by omega]; rfl
  rw [this] at h1 h2
  exact Prod.ext (by rw [h1]; simp) h2
theorem idsF_s (b : Bl) (top : Nat) : (idsF b top).2 = (idsS (intR b top).1 (intR b top).2).2 ∧ (idsF b top).1.map (·.1) = if (idsS (intR b top).1 (intR b top).2).2.err ≠ 0 then [] else (idsS (intR b top).1 (intR b top).2).1 := by
  obtain ⟨h1, h2⟩ := ids_eq (intR b top).1 (intR b top).2
  refine ⟨h1.symm, ?_⟩
  rw [h1]
  show (if _ then _ else _ : List ID32).map _ = _
  split
  · rfl
  · rename_i h; exact (h2 (Decidable.not_not.1 h)).symm

theorem rids_spec {b : Bl} {top : Nat} (ht : top ≤ 1000000) : Spec Tryz.prog 122 [.agg (blR b).toArray, .int .i64 (top : Int)] [] [] (fun v D' M' => ∃ (a' : Option Addr) (n' c' : Nat), v = .tuple #[.agg (blR (idsF b top).2).toArray, .slice a' n' c'] ∧ ((idsF b top).1.length = n') ∧ D' = [] ∧ M' = [own 1 9 a' n' c' (((idsF b top).1.map (·.1)).map ys)]) := by
 refine zC (n := 44) Tryz.func122 ?_
 intro σ D M
 have hle := int_le b top
 obtain ⟨m, hm⟩ : ∃ m, m = (intR b top).1 := ⟨_, rfl⟩
 obtain ⟨z, hz⟩ : ∃ z, z = (intR b top).2 := ⟨_, rfl⟩
 obtain ⟨hF1, hF2⟩ := idsF_s b top
 rw [← hm, ← hz] at hF1 hF2
 rw [← hm] at hle
 refine z6 (z8 (yq rfl rfl rfl (fun b2 => ?_)))
 refine zL rfl ze165 (fun b4 => ?_)
 refine z9 rfl rfl (z7 (z4 (z6 (z8 (zp rfl yn rfl qN ?_)))))
 refine z5 rfl rfl (zW rfl (ev2 rfl rfl) qD qS (rint_spec (b := b) (top := top) jO) jF ?_)
 rw [← hm, ← hz]
 refine z5 rfl rfl (zG rfl rfl rfl (zG rfl rfl rfl (zE yn rfl rfl qL qO qU qW ?_)))
 refine z9 rfl rfl (z7 (z4 (z6 (z8 (yh rfl bs31 jD (zO (out := []) rfl) (fun b17 => ?_))))))
 refine yU (len := 0) qP (rows := ([] : List (List UInt8)).map ys) (sz := 1) (by rfl) rfl (by simp) ?_
 refine z9 rfl rfl (z7 (z4 (z6 (z6 (z8 (z9 rfl rfl (z7 (z4 (zr (zX (fun K' D' M' μ => ∃ (i n7 c7 : Nat) (a7 : Option Addr) (q : Bl) (acc : List (List UInt8)), (IdsJ z m i q acc ∧ acc.length = n7) ∧ K' = [(6, .int .i64 (m : Int)), (8, .int .i64 (i : Int)), (7, .slice a7 n7 c7)] ∧ D' = [] ∧ M' = [cl b2 165 (blR (q)), own 1 9 a7 n7 c7 ((acc).map ys)] ∧ μ = m - i) (.c 2 rfl <| .c 4 rfl <| .c 6 rfl <| za _) (⟨0, 0, 0, _, z, [], ⟨.start, rfl⟩, rfl, rfl, rfl, rfl⟩) (.c 6 rfl <| .c 8 rfl <| .c 7 rfl <| za _) qD qS ?_))))))))))
 rintro K1 D1 M1 m1 ⟨i, n7, c7, a7, q, acc, ⟨hI, hac⟩, rfl, rfl, rfl, rfl⟩
 refine zF qA qA qA ?_
 have hIl := hI.le
 refine z6 (z6 (z8 (z5 rfl rfl (z5 rfl rfl (zQ rfl rfl rfl (z5 rfl rfl (yM (t := 21) rfl (fun h1 => ?_) (fun h1 => ?_))))))))
 ·try simp only [dq] at h1
  refine zf (dj := 21) rfl rfl rfl (zj rfl fo165_1 rfl ?_)
  refine zf (dj := 21) rfl rfl rfl (zh rfl sc3 rfl qC ?_)
  refine zf (dj := 21) rfl rfl rfl (yj rfl rfl rfl (ye rfl rfl rfl (z7 (z4 (zo rfl (fun h25 => ?_) (fun h25 => ?_))))))
  ·try simp only [dq] at h25
   have hqe : q.err = 0 := h25
   refine zm (z4 (z6 (zr (z6 (z8 (zp rfl yn rfl qN ?_))))))
   refine zW rfl (ev2 rfl rfl) qD qS (rbytes_spec (b := q) (n := 32) jD) jF ?_
   refine z5 rfl rfl (zG rfl rfl rfl (zG rfl rfl rfl (zL rfl ze165 (fun b9 => ?_))))
   refine zE yn rfl rfl qL qO qU qW ?_
   refine z9 rfl rfl (z7 (z4 (z6 (z8 (zp rfl yn rfl qN ?_)))))
   refine zE yn rfl rfl qL qO qU qW ?_
   refine z7 (z4 (z8 (z5 rfl rfl (z5 rfl rfl (yh rfl bs31 jD (zB rfl rfl rfl <| zO (out := []) rfl) (fun b36 => ?_))))))
   refine yR rfl yL el9 rfl rfl qP qM rfl qO1 qI qI (fun a37 c37 => ?_)
   refine z9 rfl rfl (z7 (zI (z4 (z8 (z5 rfl rfl (zH rfl rfl rfl jO ?_))))))
   refine z9 rfl rfl (z7 (z4 (y4 _ ((acc ++ [(bytB q ((32 : Nat) : Int)).1]).map ys) qP (by rw [List.map_append]; rfl) ?_)))
   exact zM ⟨i + 1, n7 + 1, _, _, (bytB q ((32 : Nat) : Int)).2, acc ++ [(bytB q ((32 : Nat) : Int)).1], ⟨hI.next jO hqe, by rw [List.length_append, hac]; rfl⟩, rfl, rfl, rfl, rfl⟩ qI (.c 6 rfl <| .c 8 rfl <| .c 7 rfl <| za _) (.c 2 rfl <| .c 4 rfl <| .c 6 rfl <| za _) qD qD qF
  ·try simp only [dq] at h25
   refine zR (zq (zq (zS (z4 (z6 (z6 (z8 (zj rfl fo165_1 rfl ?_))))))))
   refine zh rfl sc3 rfl qC ?_
   refine yx rfl rfl rfl (z7 (z4 (zo rfl (fun h40 => ?_) (fun h40 => ?_))))
   ·try simp only [dq] at h40
    refine z6 (z8 (zp rfl yn rfl qN ?_))
    refine zE yn rfl rfl qL qO qU qW ?_
    refine z9 rfl rfl (z7 (yF (sz := 1) (e := 9) ?_))
    refine zZ qP (show own 1 9 none 0 0 [] = own 1 9 none 0 0 ((([] : List (List UInt8))).map ys) from rfl) ?_
    refine z4 (zi (zD ?_))
    have hst := hI.stop (by first | (left; omega) | (right; assumption))
    have hF3 : (idsF b top).2 = q := by rw [hF1, hst]
    have hF4 : (idsF b top).1.map (·.1) = if q.err ≠ 0 then [] else acc := by rw [hF2, hst]
    first | rw [if_pos h40] at hF4 | rw [if_neg h40] at hF4
    have hF5 := congrArg List.length hF4
    rw [List.length_map] at hF5
    rw [hF3, hF4]
    exact yN rfl yn rfl qN rfl ⟨_, _, _, rfl, (by first | exact hF5 | exact hF5.trans hac), rfl, rfl⟩ qD qF
   ·try simp only [dq] at h40
    refine zm (z4 (z6 (z8 (zp rfl yn rfl qN ?_))))
    refine z5 rfl rfl (zE yn rfl rfl qL qO qU qW ?_)
    refine z9 rfl rfl (z7 (z4 (zi ?_)))
    have hst := hI.stop (by first | (left; omega) | (right; assumption))
    have hF3 : (idsF b top).2 = q := by rw [hF1, hst]
    have hF4 : (idsF b top).1.map (·.1) = if q.err ≠ 0 then [] else acc := by rw [hF2, hst]
    first | rw [if_pos h40] at hF4 | rw [if_neg h40] at hF4
    have hF5 := congrArg List.length hF4
    rw [List.length_map] at hF5
    rw [hF3, hF4]
    exact yN rfl yn rfl qN rfl ⟨_, _, _, rfl, (by first | exact hF5 | exact hF5.trans hac), rfl, rfl⟩ qD qF
 ·try simp only [dq] at h1
  refine zg (dj := 21) (c := false) rfl rfl rfl rfl rfl jD (zg (dj := 21) (c := false) rfl rfl rfl rfl rfl jD (zg (dj := 21) (c := false) rfl rfl rfl rfl rfl jD (y5 rfl rfl rfl (z7 (z4 (ym rfl rfl ?_))))))
  refine zR (zq (zq (zS (z4 (z6 (z6 (z8 (zj rfl fo165_1 rfl ?_))))))))
  refine zh rfl sc3 rfl qC ?_
  refine yx rfl rfl rfl (z7 (z4 (zo rfl (fun h40 => ?_) (fun h40 => ?_))))
  ·try simp only [dq] at h40
   refine z6 (z8 (zp rfl yn rfl qN ?_))
   refine zE yn rfl rfl qL qO qU qW ?_
   refine z9 rfl rfl (z7 (yF (sz := 1) (e := 9) ?_))
   refine zZ qP (show own 1 9 none 0 0 [] = own 1 9 none 0 0 ((([] : List (List UInt8))).map ys) from rfl) ?_
   refine z4 (zi (zD ?_))
   have hst := hI.stop (by first | (left; omega) | (right; assumption))
   have hF3 : (idsF b top).2 = q := by rw [hF1, hst]
   have hF4 : (idsF b top).1.map (·.1) = if q.err ≠ 0 then [] else acc := by rw [hF2, hst]
   first | rw [if_pos h40] at hF4 | rw [if_neg h40] at hF4
   have hF5 := congrArg List.length hF4
   rw [List.length_map] at hF5
   rw [hF3, hF4]
   exact yN rfl yn rfl qN rfl ⟨_, _, _, rfl, (by first | exact hF5 | exact hF5.trans hac), rfl, rfl⟩ qD qF
  ·try simp only [dq] at h40
   refine zm (z4 (z6 (z8 (zp rfl yn rfl qN ?_))))
   refine z5 rfl rfl (zE yn rfl rfl qL qO qU qW ?_)
   refine z9 rfl rfl (z7 (z4 (zi ?_)))
   have hst := hI.stop (by first | (left; omega) | (right; assumption))
   have hF3 : (idsF b top).2 = q := by rw [hF1, hst]
   have hF4 : (idsF b top).1.map (·.1) = if q.err ≠ 0 then [] else acc := by rw [hF2, hst]
   first | rw [if_pos h40] at hF4 | rw [if_neg h40] at hF4
   have hF5 := congrArg List.length hF4
   rw [List.length_map] at hF5
   rw [hF3, hF4]
   exact yN rfl yn rfl qN rfl ⟨_, _, _, rfl, (by first | exact hF5 | exact hF5.trans hac), rfl, rfl⟩ qD qF
end Cv
set_option maxRecDepth 10000
namespace Cv
open Go Go.Proofs
@[reducible] def inR (p : Pt) (a : Option Addr) (n c : Nat) : List Value := [S p.1.1, .int .i64 p.2, .slice a n c]
theorem gd_map {l : List ID32} {i : Nat} (h : i < l.length) : (l.map (·.1))[i]? = some (gd l i).1 := by
  rw [List.getElem?_map, zJ h]; rfl
theorem cfI_bl {x y : ID32} (h : bless x.1 y.1 = false) : 0 ≤ cfI x y := by
  rcases Int.lt_or_le (cfI x y) 0 with k | k
  · rw [bless_iff.2 k] at h; cases h
  · exact k

theorem rcheck11_spec {a : Option Addr} {n c : Nat} {l : List ID32} {p : Pt} (hn : n ≤ 1000000) : Spec Tryz.prog 123 [.agg (inR p a n c).toArray] [rsl 1 a n c ((l.map (·.1)).map ys)] [] (fun v D' M' => v = .int .i64 (chkI p l) ∧ D' = [] ∧ M' = []) := by
 refine zC (n := 37) Tryz.func123 ?_
 intro σ D M
 refine yH (rows := (l.map (·.1)).map ys) qM (fun hpl hpc => ?_)
 rw [List.length_map, List.length_map] at hpl
 
 refine z6 (z8 (yq rfl rfl rfl (fun b1 => ?_)))
 refine z9 rfl rfl (z7 (y1 (A := cl b1 107 (inR p a n c)) qP ?_))
 refine z4 (z6 (z6 (z8 (zj rfl fo107_0 rfl ?_))))
 refine zj rfl fo105_1 rfl ?_
 refine zh rfl sc3 rfl qC ?_
 refine zQ rfl rfl rfl (z7 (z4 (zo rfl (fun h7 => ?_) (fun h7 => ?_))))
 ·try simp only [dq] at h7
  exact z6 (z8 (z9 rfl rfl (z7 (z4 (zi (zD (zz rfl rfl ⟨by rw [chk_2 h7], rfl, rfl⟩ qD qF)))))))
 ·try simp only [dq] at h7
  refine zm (z4 (z6 (z6 (z8 (zj rfl fo107_0 rfl ?_)))))
  refine zj rfl fo105_1 rfl ?_
  refine zh rfl sc3 rfl qC ?_
  refine yB rfl rfl rfl (z5 rfl rfl (yM (t := 12) rfl (fun h1 => ?_) (fun h1 => ?_)))
  ·try simp only [dq] at h1
   refine zg (dj := 12) (c := true) rfl rfl rfl rfl rfl jD (zg (dj := 12) (c := true) rfl rfl rfl rfl rfl jD (zg (dj := 12) (c := true) rfl rfl rfl rfl rfl jD (zg (dj := 12) (c := true) rfl rfl rfl rfl rfl jD (ye rfl rfl rfl (z7 (z4 (xk rfl rfl ?_)))))))
   exact z6 (z8 (z9 rfl rfl (z7 (z4 (zi (zD (zz rfl rfl ⟨by rw [chk_5 h7 jO], rfl, rfl⟩ qD qF)))))))
  ·try simp only [dq] at h1
   refine zf (dj := 12) rfl rfl rfl (zj rfl fo107_1 rfl ?_)
   refine zf (dj := 12) rfl rfl rfl (zh rfl sc31 rfl qC ?_)
   refine zf (dj := 12) rfl rfl rfl (y2 rfl yL rfl (zf (dj := 12) rfl rfl rfl (yB rfl rfl rfl (y5 rfl rfl rfl (z7 (z4 (zo rfl (fun h17 => ?_) (fun h17 => ?_))))))))
   ·try simp only [dq] at h17
    exact z6 (z8 (z9 rfl rfl (z7 (z4 (zi (zD (zz rfl rfl ⟨by rw [chk_5 h7 jO], rfl, rfl⟩ qD qF)))))))
   ·try simp only [dq] at h17
    refine zm (z4 (z6 (z6 (z8 (z9 rfl rfl (z7 (z4 (zr (zX (fun K' D' M' μ => ∃ (i : Nat), ((1 ≤ i ∧ (i ≤ n ∨ i = 1)) ∧ rsR l i) ∧ K' = [(3, .int .i64 (i : Int))] ∧ D' = [] ∧ M' = [] ∧ μ = n - i) (.c 1 rfl <| za _) (⟨1, ⟨by omega, fun j hj => by omega⟩, rfl, rfl, rfl, rfl⟩) (.c 3 rfl <| za _) qD qS ?_)))))))))
    rintro K1 D1 M1 m1 ⟨i, ⟨hi, hr⟩, rfl, rfl, rfl, rfl⟩
    refine zF qA qA qA ?_
    refine z6 (z6 (z8 (z5 rfl rfl (zj rfl fo107_1 rfl ?_))))
    refine zh rfl sc31 rfl qC ?_
    refine y2 rfl yL rfl (zQ rfl rfl rfl (z7 (z4 (zo rfl (fun h22 => ?_) (fun h22 => ?_)))))
    ·try simp only [dq] at h22
     refine zm (z4 (z6 (zr (z6 ?_))))
     have hg0 : (l.map (·.1))[i]? = some (gd l (i)).1 := gd_map jO
     have hgr0 : ((l.map (·.1)).map ys)[i]? = some (ys (gd l (i)).1) := zU hg0
     have hg1 : (l.map (·.1))[i - 1]? = some (gd l (i - 1)).1 := gd_map jO
     have hgr1 : ((l.map (·.1)).map ys)[i - 1]? = some (ys (gd l (i - 1)).1) := zU hg1
     refine T.rslAddr (rows := (l.map (·.1)).map ys) qM (fun e => by have := congrArg List.length e; rw [List.length_map, List.length_map] at this; simp only [List.length_nil] at this; omega) (fun b o ha => ?_)
     subst ha
     refine yC qk qk (zj rfl fo107_1 rfl ?_)
     refine zh rfl sc31 rfl qC ?_
     refine z5 rfl rfl (y7 rfl rfl rfl jO ?_)
     refine L.idxR (i := i - 1) rfl yL sz9 rfl rfl qM jR qI qG ?_
     refine zh rfl sc9 rfl qC ?_
     refine zj rfl fo107_1 rfl ?_
     refine zh rfl sc31 rfl qC ?_
     refine z5 rfl rfl (L.idxR (i := i) rfl yL sz9 rfl rfl qM jR qI qG ?_)
     refine zh rfl sc9 rfl qC ?_
     refine L.geS rfl rfl rfl ?_
     refine yA (z4 (zo rfl (fun h36 => ?_) (fun h36 => ?_)))
     ·try simp only [dq] at h36
      have h36 : 0 ≤ cfI (gd l (i - 1)) (gd l i) := by
       cases hb : bless (gd l (i - 1)).1 (gd l i).1 with
       | false => exact cfI_bl hb
       | true => simp [hb] at h36
      exact z6 (z8 (z9 rfl rfl (z7 (z4 (zi (y3 (zD (zD (y3 (zD (zz rfl rfl ⟨by rw [chk_r h7 jO jO h36], rfl, rfl⟩ qD qF)))))))))))
     ·try simp only [dq] at h36
      have h36 : ¬ 0 ≤ cfI (gd l (i - 1)) (gd l i) := by
       cases hb : bless (gd l (i - 1)).1 (gd l i).1 with
       | false => simp [hb] at h36
       | true => exact fun q => by have := bless_iff.1 hb; unfold cfI at q; omega
      refine zm (zI (z4 (z8 (z5 rfl rfl (zH rfl rfl rfl jO ?_)))))
      exact z9 rfl rfl (z7 (z4 (zM ⟨i + 1, ⟨by omega, rsR_s hi.1 hr h36⟩, rfl, rfl, rfl, rfl⟩ qI (.c 3 rfl <| za _) (.c 1 rfl <| za _) qD qD qF)))
    ·try simp only [dq] at h22
     exact zR (zq (zq (zS (z4 (z6 (z8 (z9 rfl rfl (z7 (z4 (zi (zz rfl rfl ⟨by rw [chk_0 h7 jO (fun j hj => hr j jO)], rfl, rfl⟩ qD qF)))))))))))
end Cv
set_option maxRecDepth 10000
namespace Cv
open Go Go.Proofs
theorem intR_err {b : Bl} {top : Nat} (h : (intR b top).2.err = 0) : b.err = 0 := by
  have h1 : (numR b).2.err = 0 := Decidable.byContradiction fun k => by
    unfold intR at h; rw [if_pos k] at h; exact k h
  have h2 : (bytB b 1).2.err = 0 := Decidable.byContradiction fun k => by
    unfold numR at h1; rw [if_pos k] at h1; exact k h1
  exact (byt_len (by decide) h2).2
theorem idsF_err {b : Bl} {top : Nat} (h : (idsF b top).2.err = 0) : (intR b top).2.err = 0 := Decidable.byContradiction fun k => by
  have e : (idsF b top).2 = (idsL (intR b top).1 (intR b top).2).2 := rfl
  rw [e, idsL_err k] at h; exact k h
theorem close_err {b : Bl} (h : closeE b = 0) : b.err = 0 := by
  unfold closeE at h
  split at h
  · rename_i k; exact k.1
  · exact h

theorem rparse11_spec {s : List UInt8} (hs : s.length ≤ 1000000000) : Spec Tryz.prog 87 [S s] [] [] (fun v D' M' => ∃ (a' : Option Addr) (n' c' : Nat) (cs : List Value), v = .tuple #[.agg cs.toArray, .int .i64 (parI s).2.2] ∧ (cs.length = 3) ∧ ((∀ q ∈ cs, q.oneCell' = true)) ∧ ((parI s).2.1.length = n') ∧ (((parI s).2.2 = 0 → cs = inR (parI s).1 a' n' c')) ∧ D' = [] ∧ M' = [own 1 9 a' n' c' (((parI s).2.1.map (·.1)).map ys)]) := by
 refine zC (n := 43) Tryz.func87 ?_
 intro σ D M
 obtain ⟨z1, h1⟩ : ∃ z, z = idR ⟨s, 0⟩ := ⟨_, rfl⟩
 obtain ⟨z2, h2⟩ : ∃ z, z = intR z1.2 32768 := ⟨_, rfl⟩
 obtain ⟨z3, h3⟩ : ∃ z, z = idsF z2.2 8 := ⟨_, rfl⟩
 have hP : parI s = (if closeE z3.2 ≠ 0 then (zP, [], closeE z3.2) else if chkI (z1.1, (z2.1 : Int)) z3.1 ≠ 0 then (zP, [], chkI (z1.1, (z2.1 : Int)) z3.1) else ((z1.1, (z2.1 : Int)), z3.1, 0)) := by rw [h3, h2, h1]; rfl
 have hb1 : (bytB (⟨s, 0⟩ : Bl) ((32 : Nat) : Int)).2 = z1.2 := by rw [h1]; rfl
 have hle := int_le z1.2 32768
 rw [← h2] at hle
 have hl8 := idsF_len z2.2 8
 rw [← h3] at hl8
 refine z6 (z8 (zL rfl ze107 (fun b2 => ?_)))
 refine z9 rfl rfl (z7 (z4 (z6 (z8 (z5 rfl rfl (yw rfl bu165 (zB rfl rfl rfl <| zO (out := [Value.int .i64 0]) rfl) ?_))))))
 refine zW rfl (ev2 rfl rfl) qD qS (rbytes_spec (b := ⟨s, 0⟩) (n := 32) jD) jF ?_
 rw [hb1]
 refine z5 rfl rfl (zG rfl rfl rfl (zG rfl rfl rfl (zL rfl ze165 (fun b4 => ?_))))
 refine zE yn rfl rfl qL qO qU qW ?_
 refine z9 rfl rfl (z7 (z4 (z6 (z8 (zp rfl yn rfl qN ?_)))))
 refine zW rfl (ev2 rfl rfl) qD qS (rint_spec (b := z1.2) (top := 32768) jD) jF ?_
 rw [← h2]
 refine z5 rfl rfl (zG rfl rfl rfl (zG rfl rfl rfl (zE yn rfl rfl qL qO qU qW ?_)))
 refine z9 rfl rfl (z7 (z4 (z6 (z8 (zp rfl yn rfl qN ?_)))))
 refine zx rfl (ev2 rfl rfl) qD qS (rids_spec (b := z2.2) (top := 8) jD) ?_
 rintro _ _ _ ⟨ia, il, ic, rfl, hil, rfl, rfl⟩
 refine zt qA qA ?_
 rw [← h3] at hil ⊢
 refine z5 rfl rfl (zG rfl rfl rfl (zG rfl rfl rfl (zE yn rfl rfl qL qO qU qW ?_)))
 refine z9 rfl rfl (z7 (z4 (z6 (z6 (z8 (zp rfl yn rfl qN ?_))))))
 refine zW rfl (ev1 rfl) qD qS (rclose_spec (b := z3.2)) jF ?_
 refine yx rfl rfl rfl (z7 (z4 (zo rfl (fun h27 => ?_) (fun h27 => ?_))))
 ·try simp only [dq] at h27
  refine z6 (z8 (yw rfl bu107 (zO (out := [S [], Value.int .i64 0, Value.slice none 0 0]) rfl) ?_))
  refine zp rfl yn rfl qN ?_
  refine zW rfl (ev1 rfl) qD qS (rclose_spec (b := z3.2)) jF ?_
  refine zE ag107 rfl rfl qL qO qU qW ?_
  refine z9 rfl rfl (z7 (yF (sz := 1) (e := 9) ?_))
  refine zZ qP (show own 1 9 none 0 0 [] = own 1 9 none 0 0 ((([] : List ID32).map (·.1)).map ys) from rfl) ?_
  refine z4 (zi (zD ?_))
  rw [if_pos h27] at hP
  rw [hP]
  exact yN rfl ag107 rfl qN rfl ⟨none, 0, 0, _, rfl, rfl, (by intro q hq; simp only [List.mem_cons, List.not_mem_nil, or_false] at hq; rcases hq with rfl | rfl | rfl <;> rfl), rfl, fun q => absurd q h27, rfl, rfl⟩ qD qF
 ·try simp only [dq] at h27
  refine zm (z4 (z6 ?_))
  have hz3 : z3.2.err = 0 := close_err (Decidable.not_not.1 h27)
  have hz2 : z2.2.err = 0 := intR_err (idsF_err (by rw [← h3]; exact hz3))
  have hz1 : z1.2.err = 0 := intR_err (by rw [← h2]; exact hz2)
  have hid : (bytB (⟨s, 0⟩ : Bl) ((32 : Nat) : Int)).1 = z1.1.1 := by rw [h1] at hz1 ⊢; exact (id_val hz1).symm
  rw [hid]
  refine z8 (z5 rfl rfl (z5 rfl rfl (yw rfl bu105 (zB rfl rfl rfl <| zB rfl rfl rfl <| zO (out := []) rfl) ?_)))
  refine z5 rfl rfl (yw rfl bu107 (yQ rfl rfl (by first | with_reducible assumption | (simp; done) | (simp only [List.length_map]; with_reducible assumption) | (simp [*]; done) | rfl) (Nat.le_of_ble_eq_true rfl) qR <| zB rfl rfl rfl <| zO (out := []) rfl) ?_)
  refine zv (t := 35) (u := .agg (inR (z1.1, (z2.1 : Int)) ia il ic).toArray) rfl (by first | rfl | simp) ?_
  refine zL rfl ze107 (fun b8 => ?_)
  refine zE ag107 rfl rfl qL qO qU qW ?_
  refine z7 (y1 (A := cl b8 107 (inR (z1.1, (z2.1 : Int)) ia il ic)) qP ?_)
  refine z4 (z6 (z6 (z8 (zp rfl ag107 rfl qN ?_))))
  refine L.callB1 (A := own 1 9 ia il ic ((z3.1.map (·.1)).map ys)) rfl (ev1 rfl) qS qP (fun z H => rsl_of_own H) (rcheck11_spec (p := (z1.1, (z2.1 : Int))) (l := z3.1) jO) ?_
  rintro _ _ _ ⟨rfl, rfl, rfl⟩
  refine zt AppL.nil qA ?_
  refine yx rfl rfl rfl (z7 (z4 (zo rfl (fun h38 => ?_) (fun h38 => ?_))))
  ·try simp only [dq] at h38
   refine z6 (z8 (yw rfl bu107 (zO (out := [S [], Value.int .i64 0, Value.slice none 0 0]) rfl) ?_))
   refine zp rfl ag107 rfl qN ?_
   refine L.callB1 (A := own 1 9 ia il ic ((z3.1.map (·.1)).map ys)) rfl (ev1 rfl) qS qP (fun z H => rsl_of_own H) (rcheck11_spec (p := (z1.1, (z2.1 : Int))) (l := z3.1) jO) ?_
   rintro _ _ _ ⟨rfl, rfl, rfl⟩
   refine zt AppL.nil qA ?_
   refine zE ag107 rfl rfl qL qO qU qW ?_
   refine z9 rfl rfl (z7 (yF (sz := 1) (e := 9) ?_))
   refine zZ qP (show own 1 9 none 0 0 [] = own 1 9 none 0 0 ((([] : List ID32).map (·.1)).map ys) from rfl) ?_
   refine z4 (zi (zD ?_))
   rw [if_neg h27, if_pos h38] at hP
   rw [hP]
   exact yN rfl ag107 rfl qN rfl ⟨none, 0, 0, _, rfl, rfl, (by intro q hq; simp only [List.mem_cons, List.not_mem_nil, or_false] at hq; rcases hq with rfl | rfl | rfl <;> rfl), rfl, fun q => absurd q h38, rfl, rfl⟩ qD qF
  ·try simp only [dq] at h38
   refine zm (z4 (z6 (z8 (zp rfl ag107 rfl qN ?_))))
   refine zE ag107 rfl rfl qL qO qU qW ?_
   refine z9 rfl rfl (z7 (z4 (zi ?_)))
   rw [if_neg h27, if_neg h38] at hP
   rw [hP]
   exact yN rfl ag107 rfl qN rfl ⟨_, _, _, _, rfl, rfl, (by intro q hq; simp only [List.mem_cons, List.not_mem_nil, or_false] at hq; rcases hq with rfl | rfl | rfl <;> rfl), hil, fun _ => rfl, rfl, rfl⟩ qD qF
end Cv
