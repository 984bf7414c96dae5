/-
  The walks: info.Of.
-/
import Derived.Test.YtahkbpiinbepcaaGreatMN11
import Derived.Test.YtahkbpiinbepcaaGreatD06
import Derived.Test.YtahkbpiinbepcaaGreatProg
import Derived.KernelRfl
set_option linter.unusedVariables false
set_option linter.unusedSimpArgs false
set_option linter.unusedSectionVars false
set_option maxHeartbeats 400000
set_option maxRecDepth 10000
namespace Cv
open Go Go.Proofs
/-! ## info.Of: the plain model -/
def seedS : List UInt8 := [99, 97, 114, 97, 118, 97, 110]
theorem wrS_len (x : Tr) : (wrS x).length ≤ 32768 := by
  unfold wrS
  split
  · rename_i h; rw [List.length_append]; show 4 + _ ≤ _; exact h.2
  · simp
def ofB (x : Tr) : Pt × List Ob × Int := bldM (chnF (gearT seedS) (wrS x))
def ofI (x : Tr) (l : List ID32) : Pt × List ID32 × List Ob × Int :=
  if wrE x ≠ 0 then (zP, [], [], wrE x) else if 8 < l.length then (zP, [], [], 5)
  else if (ofB x).2.2 ≠ 0 then (zP, [], [], (ofB x).2.2) else ((ofB x).1, l, (ofB x).2.1, 0)

theorem iof_spec {x : Tr} (ta : Option Addr) (tl tc : Nat) {a : Option Addr} {n c : Nat} {xs : List ID32} (hc : x.count ≤ 900000) (hsm : TAll Sm x) (htl : x.t.length ≤ 20000) (hb : n ≤ 60000) : Spec Tryz.prog 68 [.agg (iRow x ta tl tc).toArray, .slice a n c] [rtr x (eRow x ta tl tc), rsl 32 a n c (xs.map iC)] [] (fun v D' M' => ∃ (a1 a2 : Option Addr) (n1 c1 n2 c2 : Nat) (l : List ID32), v = .tuple #[.agg (inC (ofI x l).1 a1 n1 c1).toArray, .slice a2 n2 c2, .int .i64 (ofI x l).2.2.2] ∧ (NamesF xs l ∨ wrE x ≠ 0) ∧ ((ofI x l).2.1.length = n1) ∧ ((ofI x l).2.2.1.length = n2) ∧ D' = [rsl 32 a1 n1 c1 ((ofI x l).2.1.map iC), rsl 34 a2 n2 c2 ((ofI x l).2.2.1.map obC)] ∧ M' = []) := by
 refine zI (n := 42) Tryz.func68 ?_
 intro σ D M
 have hwl := wrS_len x
 refine z6 (z8 (yt rfl rfl rfl (fun b2 => ?_)))
 refine zL rfl ze54 (fun b4 => ?_)
 refine z9 rfl rfl (z9 rfl rfl (z7 (z4 (z6 (z8 (zp rfl ag133 rfl qN ?_))))))
 refine zW rfl (ev1 rfl) qD qS (write_spec (x := x) _ _ _ hc hsm htl) jF ?_
 refine z5 rfl rfl (zV rfl rfl rfl (zV rfl rfl rfl (z9 rfl rfl (z9 rfl rfl (z7 (z4 (z6 (z6 (z8 (z5 rfl rfl (yJ rfl rfl rfl (z7 (z4 (zo rfl (fun h17 => ?_) (fun h17 => ?_)))))))))))))))
 ·try simp only [dq] at h17
  refine z6 (z8 (ye rfl bu54 (zB (out := (Value.int .u8 0 :: Value.int .u8 0 :: Value.int .u8 0 :: Value.int .u8 0 :: Value.int .u8 0 :: Value.int .u8 0 :: Value.int .u8 0 :: Value.int .u8 0 :: Value.int .u8 0 :: Value.int .u8 0 :: Value.int .u8 0 :: Value.int .u8 0 :: Value.int .u8 0 :: Value.int .u8 0 :: Value.int .u8 0 :: Value.int .u8 0 :: Value.int .u8 0 :: Value.int .u8 0 :: Value.int .u8 0 :: Value.int .u8 0 :: Value.int .u8 0 :: Value.int .u8 0 :: Value.int .u8 0 :: Value.int .u8 0 :: Value.int .u8 0 :: Value.int .u8 0 :: Value.int .u8 0 :: Value.int .u8 0 :: Value.int .u8 0 :: Value.int .u8 0 :: Value.int .u8 0 :: Value.int .u8 0 :: Value.int .i64 0 :: Value.slice none 0 0 :: [])) rfl) ?_))
  refine z5 rfl rfl (zz ag54 rfl rfl qL qO qU qW ?_)
  refine z9 rfl rfl (z9 rfl rfl (z7 (zU (A := cl b4 54 (Value.int .u8 0 :: Value.int .u8 0 :: Value.int .u8 0 :: Value.int .u8 0 :: Value.int .u8 0 :: Value.int .u8 0 :: Value.int .u8 0 :: Value.int .u8 0 :: Value.int .u8 0 :: Value.int .u8 0 :: Value.int .u8 0 :: Value.int .u8 0 :: Value.int .u8 0 :: Value.int .u8 0 :: Value.int .u8 0 :: Value.int .u8 0 :: Value.int .u8 0 :: Value.int .u8 0 :: Value.int .u8 0 :: Value.int .u8 0 :: Value.int .u8 0 :: Value.int .u8 0 :: Value.int .u8 0 :: Value.int .u8 0 :: Value.int .u8 0 :: Value.int .u8 0 :: Value.int .u8 0 :: Value.int .u8 0 :: Value.int .u8 0 :: Value.int .u8 0 :: Value.int .u8 0 :: Value.int .u8 0 :: Value.int .i64 0 :: Value.slice none 0 0 :: [])) (B := cl b4 54 (inC zP none 0 0)) qP rfl ?_)))
  refine yw (sz := 32) (e := 38) ?_
  refine zU qP (show own 32 38 none 0 0 [] = own 32 38 none 0 0 ((([] : List ID32)).map iC) from rfl) ?_
  refine yA (rows := ([] : List ID32).map iC) qP ?_
  refine yw (sz := 34) (e := 45) ?_
  refine zU qP (show own 34 45 none 0 0 [] = own 34 45 none 0 0 ((([] : List Ob)).map obC) from rfl) ?_
  refine yA (rows := ([] : List Ob).map obC) qP ?_
  refine z4 (zj (zx ?_))
  have hO : ofI x [] = (zP, [], [], wrE x) := by unfold ofI; rw [if_pos h17]
  exact T.retATT rfl ag54 rfl qN rfl rfl ⟨none, none, 0, 0, 0, 0, [], by rw [hO] <;> rfl, .inr h17, by rw [hO] <;> rfl, by rw [hO] <;> rfl, by rw [hO] <;> rfl, rfl⟩ qD qF
 ·try simp only [dq] at h17
  refine zm (z4 (z6 (z8 (z5 rfl rfl (zC rfl (ev1 rfl) qD qS (sorted_spec (xs := xs) hb) ?_)))))
  rintro _ _ _ ⟨sa, sn, sc, l, rfl, hnf, hsn, rfl, rfl⟩
  refine zy qA qA ?_
  refine z9 rfl rfl (z7 (yA (rows := l.map iC) qP ?_))
  refine z4 (z6 (z6 (z8 (z5 rfl rfl (y1 rfl zG rfl (yq rfl rfl rfl (z7 (z4 (zo rfl (fun h24 => ?_) (fun h24 => ?_))))))))))
  ·try simp only [dq] at h24
   refine z6 (z8 (ye rfl bu54 (zB (out := (Value.int .u8 0 :: Value.int .u8 0 :: Value.int .u8 0 :: Value.int .u8 0 :: Value.int .u8 0 :: Value.int .u8 0 :: Value.int .u8 0 :: Value.int .u8 0 :: Value.int .u8 0 :: Value.int .u8 0 :: Value.int .u8 0 :: Value.int .u8 0 :: Value.int .u8 0 :: Value.int .u8 0 :: Value.int .u8 0 :: Value.int .u8 0 :: Value.int .u8 0 :: Value.int .u8 0 :: Value.int .u8 0 :: Value.int .u8 0 :: Value.int .u8 0 :: Value.int .u8 0 :: Value.int .u8 0 :: Value.int .u8 0 :: Value.int .u8 0 :: Value.int .u8 0 :: Value.int .u8 0 :: Value.int .u8 0 :: Value.int .u8 0 :: Value.int .u8 0 :: Value.int .u8 0 :: Value.int .u8 0 :: Value.int .i64 0 :: Value.slice none 0 0 :: [])) rfl) ?_))
   refine zz ag54 rfl rfl qL qO qU qW ?_
   refine z9 rfl rfl (z9 rfl rfl (z7 (zU (A := cl b4 54 (Value.int .u8 0 :: Value.int .u8 0 :: Value.int .u8 0 :: Value.int .u8 0 :: Value.int .u8 0 :: Value.int .u8 0 :: Value.int .u8 0 :: Value.int .u8 0 :: Value.int .u8 0 :: Value.int .u8 0 :: Value.int .u8 0 :: Value.int .u8 0 :: Value.int .u8 0 :: Value.int .u8 0 :: Value.int .u8 0 :: Value.int .u8 0 :: Value.int .u8 0 :: Value.int .u8 0 :: Value.int .u8 0 :: Value.int .u8 0 :: Value.int .u8 0 :: Value.int .u8 0 :: Value.int .u8 0 :: Value.int .u8 0 :: Value.int .u8 0 :: Value.int .u8 0 :: Value.int .u8 0 :: Value.int .u8 0 :: Value.int .u8 0 :: Value.int .u8 0 :: Value.int .u8 0 :: Value.int .u8 0 :: Value.int .i64 0 :: Value.slice none 0 0 :: [])) (B := cl b4 54 (inC zP none 0 0)) qP rfl ?_)))
   refine yw (sz := 32) (e := 38) ?_
   refine zU qP (show own 32 38 none 0 0 [] = own 32 38 none 0 0 ((([] : List ID32)).map iC) from rfl) ?_
   refine yA (rows := ([] : List ID32).map iC) qP ?_
   refine yw (sz := 34) (e := 45) ?_
   refine zU qP (show own 34 45 none 0 0 [] = own 34 45 none 0 0 ((([] : List Ob)).map obC) from rfl) ?_
   refine yA (rows := ([] : List Ob).map obC) qP ?_
   refine z4 (zj (zx ?_))
   have hO : ofI x l = (zP, [], [], 5) := by unfold ofI; rw [if_neg h17, if_pos jO]
   exact T.retATT rfl ag54 rfl qN rfl rfl ⟨none, none, 0, 0, 0, 0, l, by rw [hO] <;> rfl, .inl hnf, by rw [hO] <;> rfl, by rw [hO] <;> rfl, by rw [hO] <;> rfl, rfl⟩ qD qF
  ·try simp only [dq] at h24
   refine zm (z4 (z6 (z8 (zC rfl (ev1 rfl) qD qS (gnew_spec (seed := seedS) jD) ?_))))
   rintro _ _ _ ⟨tb, rfl, rfl, rfl⟩
   refine zy qA qA ?_
   refine z5 rfl rfl (zC rfl (ev2 rfl rfl) qD qS (cut2_spec (tt := gearT seedS) (s := wrS x) gearT_len jO) ?_)
   rintro _ _ _ ⟨ka, kn, kc, rfl, hkn, rfl, rfl⟩
   refine zy qA qA ?_
   have hkl := chnF_len (T := gearT seedS) (s := wrS x)
   refine yY (rows := (chnF (gearT seedS) (wrS x)).map ys) qP ?_
   refine zC rfl (ev1 rfl) qD qS (mbuild_spec (cs := chnF (gearT seedS) (wrS x)) jO) ?_
   rintro _ _ _ ⟨ma, mn, mc, rfl, hmn, rfl, rfl⟩
   refine zy qA qA ?_
   have hbe : bldM (chnF (gearT seedS) (wrS x)) = ofB x := rfl
   rw [hbe] at hmn ⊢
   have hp3 := ptC_len (ofB x).1
   have hp32 := (ofB x).1.1.2
   have hin := inC_len (ofB x).1 sa sn sc
   refine z5 rfl rfl (zV rfl rfl rfl (zV rfl rfl rfl (zV rfl rfl rfl (zL rfl ze51 (fun b9 => ?_)))))
   refine zz ag51 rfl rfl qL qO qU qW ?_
   refine z9 rfl rfl (z9 rfl rfl (z7 (yA (rows := (ofB x).2.1.map obC) qP ?_)))
   refine z4 (z6 (z6 (z8 (z5 rfl rfl (yJ rfl rfl rfl (z7 (z4 (zo rfl (fun h35 => ?_) (fun h35 => ?_)))))))))
   ·try simp only [dq] at h35
    refine z6 (z8 (ye rfl bu54 (zB (out := (Value.int .u8 0 :: Value.int .u8 0 :: Value.int .u8 0 :: Value.int .u8 0 :: Value.int .u8 0 :: Value.int .u8 0 :: Value.int .u8 0 :: Value.int .u8 0 :: Value.int .u8 0 :: Value.int .u8 0 :: Value.int .u8 0 :: Value.int .u8 0 :: Value.int .u8 0 :: Value.int .u8 0 :: Value.int .u8 0 :: Value.int .u8 0 :: Value.int .u8 0 :: Value.int .u8 0 :: Value.int .u8 0 :: Value.int .u8 0 :: Value.int .u8 0 :: Value.int .u8 0 :: Value.int .u8 0 :: Value.int .u8 0 :: Value.int .u8 0 :: Value.int .u8 0 :: Value.int .u8 0 :: Value.int .u8 0 :: Value.int .u8 0 :: Value.int .u8 0 :: Value.int .u8 0 :: Value.int .u8 0 :: Value.int .i64 0 :: Value.slice none 0 0 :: [])) rfl) ?_))
    refine z5 rfl rfl (zz ag54 rfl rfl qL qO qU qW ?_)
    refine z9 rfl rfl (z9 rfl rfl (z7 (zU (A := cl b4 54 (Value.int .u8 0 :: Value.int .u8 0 :: Value.int .u8 0 :: Value.int .u8 0 :: Value.int .u8 0 :: Value.int .u8 0 :: Value.int .u8 0 :: Value.int .u8 0 :: Value.int .u8 0 :: Value.int .u8 0 :: Value.int .u8 0 :: Value.int .u8 0 :: Value.int .u8 0 :: Value.int .u8 0 :: Value.int .u8 0 :: Value.int .u8 0 :: Value.int .u8 0 :: Value.int .u8 0 :: Value.int .u8 0 :: Value.int .u8 0 :: Value.int .u8 0 :: Value.int .u8 0 :: Value.int .u8 0 :: Value.int .u8 0 :: Value.int .u8 0 :: Value.int .u8 0 :: Value.int .u8 0 :: Value.int .u8 0 :: Value.int .u8 0 :: Value.int .u8 0 :: Value.int .u8 0 :: Value.int .u8 0 :: Value.int .i64 0 :: Value.slice none 0 0 :: [])) (B := cl b4 54 (inC zP none 0 0)) qP rfl ?_)))
    refine yw (sz := 32) (e := 38) ?_
    refine zU qP (show own 32 38 none 0 0 [] = own 32 38 none 0 0 ((([] : List ID32)).map iC) from rfl) ?_
    refine yA (rows := ([] : List ID32).map iC) qP ?_
    refine yw (sz := 34) (e := 45) ?_
    refine zU qP (show own 34 45 none 0 0 [] = own 34 45 none 0 0 ((([] : List Ob)).map obC) from rfl) ?_
    refine yA (rows := ([] : List Ob).map obC) qP ?_
    refine z4 (zj (zx ?_))
    have hO : ofI x l = (zP, [], [], (ofB x).2.2) := by unfold ofI; rw [if_neg h17, if_neg jO, if_pos h35]
    exact T.retATT rfl ag54 rfl qN rfl rfl ⟨none, none, 0, 0, 0, 0, l, by rw [hO] <;> rfl, .inl hnf, by rw [hO] <;> rfl, by rw [hO] <;> rfl, by rw [hO] <;> rfl, rfl⟩ qD qF
   ·try simp only [dq] at h35
    refine zm (z4 (z6 (z8 (zp rfl ag51 rfl qN ?_))))
    refine z5 rfl rfl (ye rfl bu54 (ym rfl rfl (by first | with_reducible assumption | (simp; done) | (simp only [List.length_map]; with_reducible assumption) | (simp [*]; done) | rfl) (Nat.le_of_ble_eq_true rfl) qR <| zw rfl rfl rfl <| zB (out := []) rfl) ?_)
    refine zv (t := 40) (u := .agg (inC (ofB x).1 sa sn sc).toArray) rfl (by first | rfl | simp) ?_
    refine z5 rfl rfl (zz ag54 rfl rfl qL qO qU qW ?_)
    refine z9 rfl rfl (z9 rfl rfl (z7 (z4 (zj ?_))))
    have hO : ofI x l = ((ofB x).1, l, (ofB x).2.1, 0) := by unfold ofI; rw [if_neg h17, if_neg jO, if_neg h35]
    exact T.retATT rfl ag54 rfl qN rfl rfl ⟨sa, ma, sn, sc, mn, mc, l, by rw [hO] <;> rfl, .inl hnf, by rw [hO]; exact hsn, by rw [hO]; exact hmn, by rw [hO] <;> rfl, rfl⟩ qD qF
end Cv
