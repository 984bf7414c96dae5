/-
  The walks: info.Of.
-/
import Derived.Test.YtahkbpiinbepcaaGreatMN11
import Derived.Test.YtahkbpiinbepcaaGreatD06
import Derived.Test.YtahkbpiinbepcaaGreatProg
import Derived.KernelRfl
set_option linter.unusedVariables false
set_option linter.unusedSimpArgs false
set_option linter.unusedSectionVars false
set_option maxHeartbeats 400000
set_option maxRecDepth 10000
namespace Cv
open Go Go.Proofs
/-! ## info.Of: the plain model -/
theorem fdiv2 (i j : Nat) : Int.fdiv ((i : Int) + (j : Int)) (2 ^ min (Int.toNat 1) IntKind.u64.bits) = (((i + j) / 2 : Nat) : Int) := by
  have : (2 ^ min (Int.toNat 1) IntKind.u64.bits : Int) = 2 := rfl
  rw [this, Int.fdiv_eq_ediv_of_nonneg _ (by decide)]; omega
def seedS : List UInt8 := [99, 97, 114, 97, 118, 97, 110]
theorem wrS_len (x : Tr) : (wrS x).length ≤ 32768 := by
  unfold wrS
  split
  · rename_i h; rw [List.length_append]; show 4 + _ ≤ _; exact h.2
  · simp
def ofB (x : Tr) : Pt × List Ob × Int := bldM (chnF (gearT seedS) (wrS x))
def ofI (x : Tr) (l : List ID32) : Pt × List ID32 × List Ob × Int :=
  if wrE x ≠ 0 then (zP, [], [], wrE x) else if 8 < l.length then (zP, [], [], 5)
  else if (ofB x).2.2 ≠ 0 then (zP, [], [], (ofB x).2.2) else ((ofB x).1, l, (ofB x).2.1, 0)

theorem bsrch_spec {a : Option Addr} {n c : Nat} {l : List ID32} {z : ID32} (hs : l.Pairwise (fun x y => x.1 < y.1)) (hn : n ≤ 1000000) : Spec Tryz.prog 76 [.slice a n c, .agg (iC z).toArray, fnV 55 []] [rsl 32 a n c (l.map iC)] [] (fun v D' M' => ∃ (k : Nat), v = .tuple #[.int .i64 (k : Int), .bool (decide (z ∈ l))] ∧ D' = [] ∧ M' = []) := by
 refine zC (n := 49) Tryz.func76 ?_
 intro σ D M
 refine yH (rows := l.map iC) qM (fun hpl hpc => ?_)
 rw [List.length_map] at hpl
 have hz3 := zT z
 have hz2 := z.2
 refine z6 (z8 (yq rfl rfl rfl (fun b4 => ?_)))
 refine z9 rfl rfl (z9 rfl rfl (z7 (y1 (A := cl b4 38 (iC z)) qP ?_)))
 refine z4 (z6 (z8 (z5 rfl rfl (y2 rfl zA rfl (z9 rfl rfl (z7 (z4 (z6 (z8 (z5 rfl rfl (z9 rfl rfl (z9 rfl rfl (z7 (z4 (z6 (zr (zX (fun K' D' M' μ => ∃ (i j : Nat), (HalfI l z i j) ∧ K' = [(9, .int .i64 (i : Int)), (10, .int .i64 (j : Int))] ∧ D' = [] ∧ M' = [] ∧ μ = j - i) (.c 0 rfl <| .c 2 rfl <| .c 4 rfl <| .c 8 rfl <| za _) (⟨0, n, ⟨⟨Nat.zero_le _, by omega⟩, fun p h => by omega, fun p h k => by omega⟩, rfl, rfl, rfl, rfl⟩) (.c 9 rfl <| .c 10 rfl <| za _) qD qS ?_)))))))))))))))))
 rintro K1 D1 M1 m1 ⟨i, j, hH, rfl, rfl, rfl, rfl⟩
 refine zF qA qA qA ?_
 refine z6 (z6 (z8 (z5 rfl rfl (z5 rfl rfl (zQ rfl rfl rfl (z7 (z4 (zo rfl (fun h17 => ?_) (fun h17 => ?_)))))))))
 ·try simp only [dq] at h17
  refine zm (z4 (zr (z6 ?_)))
  have hle := hH.le
  obtain ⟨h, hh⟩ : ∃ h, h = (i + j) / 2 := ⟨_, rfl⟩
  refine z8 (z5 rfl rfl (z5 rfl rfl (zH rfl rfl rfl jO ?_)))
  refine L.convU rfl xf xH rfl qI ?_
  refine L.shrI rfl rfl rfl qI ?_
  refine zv (t := 22) (u := .int .u64 (h : Int)) rfl (congrArg (Value.int .u64) ((fdiv2 i j).trans (congrArg _ hh.symm))) ?_
  refine L.convN rfl xH xf rfl qI ?_
  refine zv (t := 23) (u := .int .i64 (h : Int)) rfl (congrArg (Value.int .i64) jO) ?_
  refine z9 rfl rfl (z7 (z4 (z6 ?_)))
  have hg0 : l[h]? = some (gd l h) := zJ jO
  have hgr0 : (l.map iC)[h]? = some (iC (gd l h)) := zU hg0
  have hw0 := zT (gd l h)
  have hv0 := (gd l h).2
  refine T.rslAddr (rows := l.map iC) qM (fun e => by have := congrArg List.length e; rw [List.length_map] at this; simp only [List.length_nil] at this; omega) (fun bo oo ha => ?_)
  subst ha
  refine yC qk qk (z5 rfl rfl (z5 rfl rfl (z5 rfl rfl (L.idxR (i := h) rfl zA zN rfl rfl qM jR qI qG ?_))))
  refine zp rfl zu rfl (x8 qM (hw0)) ?_
  refine zp rfl zu rfl qN ?_
  refine xv rfl rfl (ev2 rfl rfl) qD qS (ocmp_spec (x := gd l h) (y := z)) jF ?_
  refine zQ rfl rfl rfl (yA (z4 (zo rfl (fun h31 => ?_) (fun h31 => ?_))))
  ·try simp only [dq] at h31
   refine z8 (z5 rfl rfl (zH rfl rfl rfl jO ?_))
   exact z9 rfl rfl (z7 (zI (z4 (zM ⟨h + 1, j, hH.up hs jO jO h31, rfl, rfl, rfl, rfl⟩ qI (.c 9 rfl <| .c 10 rfl <| za _) (.c 0 rfl <| .c 2 rfl <| .c 4 rfl <| .c 8 rfl <| za _) qD qD qF))))
  ·try simp only [dq] at h31
   exact z8 (z5 rfl rfl (z9 rfl rfl (z7 (zI (z4 (zM ⟨i, h, hH.down hs jO jO h31, rfl, rfl, rfl, rfl⟩ qI (.c 9 rfl <| .c 10 rfl <| za _) (.c 0 rfl <| .c 2 rfl <| .c 4 rfl <| .c 8 rfl <| za _) qD qD qF))))))
 ·try simp only [dq] at h17
  have hf := hH.fin hs jO
  have hle := hH.le
  refine zR (zq (zq (zS (z4 (z6 ?_)))))
  rcases Nat.lt_or_ge i n with hin | hin
  ·skip
   have hg0 : l[i]? = some (gd l i) := zJ jO
   have hgr0 : (l.map iC)[i]? = some (iC (gd l i)) := zU hg0
   have hw0 := zT (gd l i)
   have hv0 := (gd l i).2
   refine T.rslAddr (rows := l.map iC) qM (fun e => by have := congrArg List.length e; rw [List.length_map] at this; simp only [List.length_nil] at this; omega) (fun bo oo ha => ?_)
   subst ha
   refine yC qk qk (z5 rfl rfl (z5 rfl rfl (z5 rfl rfl (zQ rfl rfl rfl (z5 rfl rfl (zv (t := 39) rfl (show _ = Value.bool true from congrArg Value.bool (decide_eq_true jO)) ?_))))))
   refine zf (dj := 39) rfl rfl rfl (z5 rfl rfl (zf (dj := 39) rfl rfl rfl (z5 rfl rfl (zf (dj := 39) rfl rfl rfl (z5 rfl rfl (zf (dj := 39) rfl rfl rfl (L.idxR (i := i) rfl zA zN rfl rfl qM jR qI qG ?_)))))))
   refine zf (dj := 39) rfl rfl rfl (zp rfl zu rfl (x8 qM (hw0)) ?_)
   refine zf (dj := 39) rfl rfl rfl (zp rfl zu rfl qN ?_)
   refine zf (dj := 39) rfl rfl rfl (xv rfl rfl (ev2 rfl rfl) qD qS (ocmp_spec (x := gd l i) (y := z)) jF ?_)
   exact zf (dj := 39) rfl rfl rfl (yj rfl rfl rfl (ye rfl rfl rfl (z9 rfl rfl (z9 rfl rfl (yA (z4 (zi (xe rfl rfl rfl ⟨i, by rw [decide_eq_decide.2 (show z ∈ l ↔ cfI (gd l i) z = 0 from hf.trans ⟨fun q => q.2, fun q => ⟨by omega, q⟩⟩)], rfl, rfl⟩ qD qF))))))))
  ·skip
   refine yC qk qk (z5 rfl rfl (z5 rfl rfl (z5 rfl rfl (zQ rfl rfl rfl (z5 rfl rfl (zv (t := 39) rfl (show _ = Value.bool false from congrArg Value.bool (decide_eq_false jO)) ?_))))))
   exact zg (dj := 39) (c := false) rfl rfl rfl rfl rfl jD (zg (dj := 39) (c := false) rfl rfl rfl rfl rfl jD (zg (dj := 39) (c := false) rfl rfl rfl rfl rfl jD (zg (dj := 39) (c := false) rfl rfl rfl rfl rfl jD (zg (dj := 39) (c := false) rfl rfl rfl rfl rfl jD (zg (dj := 39) (c := false) rfl rfl rfl rfl rfl jD (zg (dj := 39) (c := false) rfl rfl rfl rfl rfl jD (zg (dj := 39) (c := false) rfl rfl rfl rfl rfl jD (y5 rfl rfl rfl (z9 rfl rfl (z9 rfl rfl (yA (z4 (zi (xe rfl rfl rfl ⟨i, by rw [decide_eq_false (show ¬ z ∈ l from fun q => by have := (hf.1 q).1; omega)], rfl, rfl⟩ qD qF))))))))))))))
theorem refers_spec {a : Option Addr} {n c : Nat} {l : List ID32} {p : Pt} {z : ID32} (hs : l.Pairwise (fun x y => x.1 < y.1)) (hn : n ≤ 1000000) : Spec Tryz.prog 50 [.agg (inC p a n c).toArray, .agg (iC z).toArray] [rsl 32 a n c (l.map iC)] [] (fun v D' M' => v = .bool (decide (z ∈ l)) ∧ D' = [] ∧ M' = []) := by
 refine zC (n := 15) Tryz.func50 ?_
 intro σ D M
 have hz3 := zT z
 have hp3 := inC_len p a n c
 have hp32 := p.1.2
 refine z6 (z8 (yq rfl rfl rfl (fun b2 => ?_)))
 refine yq rfl rfl rfl (fun b3 => ?_)
 refine z9 rfl rfl (z7 (z4 (z6 (z8 (zj rfl fo54_1 rfl ?_)))))
 refine zh rfl sc30 rfl qC ?_
 refine zp rfl zu rfl qN ?_
 refine zx rfl (ev3 rfl rfl rfl) qD qS (bsrch_spec (l := l) (z := z) hs hn) ?_
 rintro _ _ _ ⟨k, rfl, rfl, rfl⟩
 refine zt qA qA ?_
 exact z5 rfl rfl (zG rfl rfl rfl (zG rfl rfl rfl (z9 rfl rfl (z9 rfl rfl (z7 (z4 (z6 (z8 (z5 rfl rfl (z9 rfl rfl (z7 (z4 (zi (zz rfl rfl ⟨rfl, rfl, rfl⟩ qD qF))))))))))))))
theorem iof_spec {x : Tr} (ta : Option Addr) (tl tc : Nat) {a : Option Addr} {n c : Nat} {xs : List ID32} (hc : x.count ≤ 900000) (hsm : TAll Sm x) (htl : x.t.length ≤ 20000) (hb : n ≤ 60000) : Spec Tryz.prog 68 [.agg (iRow x ta tl tc).toArray, .slice a n c] [rtr x (eRow x ta tl tc), rsl 32 a n c (xs.map iC)] [] (fun v D' M' => ∃ (a1 a2 : Option Addr) (n1 c1 n2 c2 : Nat) (l : List ID32), v = .tuple #[.agg (inC (ofI x l).1 a1 n1 c1).toArray, .slice a2 n2 c2, .int .i64 (ofI x l).2.2.2] ∧ (NamesF xs l ∨ wrE x ≠ 0) ∧ ((ofI x l).2.1.length = n1) ∧ ((ofI x l).2.2.1.length = n2) ∧ D' = [rsl 32 a1 n1 c1 ((ofI x l).2.1.map iC), rsl 34 a2 n2 c2 ((ofI x l).2.2.1.map obC)] ∧ M' = []) := by
 refine zC (n := 42) Tryz.func68 ?_
 intro σ D M
 have hwl := wrS_len x
 refine z6 (z8 (yq rfl rfl rfl (fun b2 => ?_)))
 refine zL rfl ze54 (fun b4 => ?_)
 refine z9 rfl rfl (z9 rfl rfl (z7 (z4 (z6 (z8 (zp rfl ag133 rfl qN ?_))))))
 refine zW rfl (ev1 rfl) qD qS (write_spec (x := x) _ _ _ hc hsm htl) jF ?_
 refine z5 rfl rfl (zG rfl rfl rfl (zG rfl rfl rfl (z9 rfl rfl (z9 rfl rfl (z7 (z4 (z6 (z6 (z8 (z5 rfl rfl (yx rfl rfl rfl (z7 (z4 (zo rfl (fun h17 => ?_) (fun h17 => ?_)))))))))))))))
 ·try simp only [dq] at h17
  refine z6 (z8 (yw rfl bu54 (zO (out := (Value.int .u8 0 :: .int .u8 0 :: .int .u8 0 :: .int .u8 0 :: .int .u8 0 :: .int .u8 0 :: .int .u8 0 :: .int .u8 0 :: .int .u8 0 :: .int .u8 0 :: .int .u8 0 :: .int .u8 0 :: .int .u8 0 :: .int .u8 0 :: .int .u8 0 :: .int .u8 0 :: .int .u8 0 :: .int .u8 0 :: .int .u8 0 :: .int .u8 0 :: .int .u8 0 :: .int .u8 0 :: .int .u8 0 :: .int .u8 0 :: .int .u8 0 :: .int .u8 0 :: .int .u8 0 :: .int .u8 0 :: .int .u8 0 :: .int .u8 0 :: .int .u8 0 :: .int .u8 0 :: .int .i64 0 :: Value.slice none 0 0 :: [])) rfl) ?_))
  refine z5 rfl rfl (zE y9 rfl rfl qL qO qU qW ?_)
  refine z9 rfl rfl (z9 rfl rfl (z7 (zZ (A := cl b4 54 (Value.int .u8 0 :: .int .u8 0 :: .int .u8 0 :: .int .u8 0 :: .int .u8 0 :: .int .u8 0 :: .int .u8 0 :: .int .u8 0 :: .int .u8 0 :: .int .u8 0 :: .int .u8 0 :: .int .u8 0 :: .int .u8 0 :: .int .u8 0 :: .int .u8 0 :: .int .u8 0 :: .int .u8 0 :: .int .u8 0 :: .int .u8 0 :: .int .u8 0 :: .int .u8 0 :: .int .u8 0 :: .int .u8 0 :: .int .u8 0 :: .int .u8 0 :: .int .u8 0 :: .int .u8 0 :: .int .u8 0 :: .int .u8 0 :: .int .u8 0 :: .int .u8 0 :: .int .u8 0 :: .int .i64 0 :: Value.slice none 0 0 :: [])) (B := cl b4 54 (inC zP none 0 0)) qP rfl ?_)))
  refine yF (sz := 32) (e := 38) ?_
  refine zZ qP (show own 32 38 none 0 0 [] = own 32 38 none 0 0 ((([] : List ID32)).map iC) from rfl) ?_
  refine yD (rows := ([] : List ID32).map iC) qP ?_
  refine yF (sz := 34) (e := 45) ?_
  refine zZ qP (show own 34 45 none 0 0 [] = own 34 45 none 0 0 ((([] : List Ob)).map obC) from rfl) ?_
  refine yD (rows := ([] : List Ob).map obC) qP ?_
  refine z4 (zi (zD ?_))
  have hO : ofI x [] = (zP, [], [], wrE x) := by unfold ofI; rw [if_pos h17]
  exact T.retATT rfl y9 rfl qN rfl rfl ⟨none, none, 0, 0, 0, 0, [], by rw [hO] <;> rfl, .inr h17, by rw [hO] <;> rfl, by rw [hO] <;> rfl, by rw [hO] <;> rfl, rfl⟩ qD qF
 ·try simp only [dq] at h17
  refine zm (z4 (z6 (z8 (z5 rfl rfl (zx rfl (ev1 rfl) qD qS (sorted_spec (xs := xs) hb) ?_)))))
  rintro _ _ _ ⟨sa, sn, sc, l, rfl, hnf, hsn, rfl, rfl⟩
  refine zt qA qA ?_
  refine z9 rfl rfl (z7 (yD (rows := l.map iC) qP ?_))
  refine z4 (z6 (z6 (z8 (z5 rfl rfl (y2 rfl zA rfl (yB rfl rfl rfl (z7 (z4 (zo rfl (fun h24 => ?_) (fun h24 => ?_))))))))))
  ·try simp only [dq] at h24
   refine z6 (z8 (yw rfl bu54 (zO (out := (Value.int .u8 0 :: .int .u8 0 :: .int .u8 0 :: .int .u8 0 :: .int .u8 0 :: .int .u8 0 :: .int .u8 0 :: .int .u8 0 :: .int .u8 0 :: .int .u8 0 :: .int .u8 0 :: .int .u8 0 :: .int .u8 0 :: .int .u8 0 :: .int .u8 0 :: .int .u8 0 :: .int .u8 0 :: .int .u8 0 :: .int .u8 0 :: .int .u8 0 :: .int .u8 0 :: .int .u8 0 :: .int .u8 0 :: .int .u8 0 :: .int .u8 0 :: .int .u8 0 :: .int .u8 0 :: .int .u8 0 :: .int .u8 0 :: .int .u8 0 :: .int .u8 0 :: .int .u8 0 :: .int .i64 0 :: Value.slice none 0 0 :: [])) rfl) ?_))
   refine zE y9 rfl rfl qL qO qU qW ?_
   refine z9 rfl rfl (z9 rfl rfl (z7 (zZ (A := cl b4 54 (Value.int .u8 0 :: .int .u8 0 :: .int .u8 0 :: .int .u8 0 :: .int .u8 0 :: .int .u8 0 :: .int .u8 0 :: .int .u8 0 :: .int .u8 0 :: .int .u8 0 :: .int .u8 0 :: .int .u8 0 :: .int .u8 0 :: .int .u8 0 :: .int .u8 0 :: .int .u8 0 :: .int .u8 0 :: .int .u8 0 :: .int .u8 0 :: .int .u8 0 :: .int .u8 0 :: .int .u8 0 :: .int .u8 0 :: .int .u8 0 :: .int .u8 0 :: .int .u8 0 :: .int .u8 0 :: .int .u8 0 :: .int .u8 0 :: .int .u8 0 :: .int .u8 0 :: .int .u8 0 :: .int .i64 0 :: Value.slice none 0 0 :: [])) (B := cl b4 54 (inC zP none 0 0)) qP rfl ?_)))
   refine yF (sz := 32) (e := 38) ?_
   refine zZ qP (show own 32 38 none 0 0 [] = own 32 38 none 0 0 ((([] : List ID32)).map iC) from rfl) ?_
   refine yD (rows := ([] : List ID32).map iC) qP ?_
   refine yF (sz := 34) (e := 45) ?_
   refine zZ qP (show own 34 45 none 0 0 [] = own 34 45 none 0 0 ((([] : List Ob)).map obC) from rfl) ?_
   refine yD (rows := ([] : List Ob).map obC) qP ?_
   refine z4 (zi (zD ?_))
   have hO : ofI x l = (zP, [], [], 5) := by unfold ofI; rw [if_neg h17, if_pos jO]
   exact T.retATT rfl y9 rfl qN rfl rfl ⟨none, none, 0, 0, 0, 0, l, by rw [hO] <;> rfl, .inl hnf, by rw [hO] <;> rfl, by rw [hO] <;> rfl, by rw [hO] <;> rfl, rfl⟩ qD qF
  ·try simp only [dq] at h24
   refine zm (z4 (z6 (z8 (zx rfl (ev1 rfl) qD qS (gnew_spec (seed := seedS) jD) ?_))))
   rintro _ _ _ ⟨tb, rfl, rfl, rfl⟩
   refine zt qA qA ?_
   refine z5 rfl rfl (zx rfl (ev2 rfl rfl) qD qS (cut2_spec (tt := gearT seedS) (s := wrS x) gearT_len jO) ?_)
   rintro _ _ _ ⟨ka, kn, kc, rfl, hkn, rfl, rfl⟩
   refine zt qA qA ?_
   have hkl := chnF_len (T := gearT seedS) (s := wrS x)
   refine yZ (rows := (chnF (gearT seedS) (wrS x)).map ys) qP ?_
   refine zx rfl (ev1 rfl) qD qS (mbuild_spec (cs := chnF (gearT seedS) (wrS x)) jO) ?_
   rintro _ _ _ ⟨ma, mn, mc, rfl, hmn, rfl, rfl⟩
   refine zt qA qA ?_
   have hbe : bldM (chnF (gearT seedS) (wrS x)) = ofB x := rfl
   rw [hbe] at hmn ⊢
   have hp3 := ptC_len (ofB x).1
   have hp32 := (ofB x).1.1.2
   have hin := inC_len (ofB x).1 sa sn sc
   refine z5 rfl rfl (zG rfl rfl rfl (zG rfl rfl rfl (zG rfl rfl rfl (zL rfl ze51 (fun b9 => ?_)))))
   refine zE ag51 rfl rfl qL qO qU qW ?_
   refine z9 rfl rfl (z9 rfl rfl (z7 (yD (rows := (ofB x).2.1.map obC) qP ?_)))
   refine z4 (z6 (z6 (z8 (z5 rfl rfl (yx rfl rfl rfl (z7 (z4 (zo rfl (fun h35 => ?_) (fun h35 => ?_)))))))))
   ·try simp only [dq] at h35
    refine z6 (z8 (yw rfl bu54 (zO (out := (Value.int .u8 0 :: .int .u8 0 :: .int .u8 0 :: .int .u8 0 :: .int .u8 0 :: .int .u8 0 :: .int .u8 0 :: .int .u8 0 :: .int .u8 0 :: .int .u8 0 :: .int .u8 0 :: .int .u8 0 :: .int .u8 0 :: .int .u8 0 :: .int .u8 0 :: .int .u8 0 :: .int .u8 0 :: .int .u8 0 :: .int .u8 0 :: .int .u8 0 :: .int .u8 0 :: .int .u8 0 :: .int .u8 0 :: .int .u8 0 :: .int .u8 0 :: .int .u8 0 :: .int .u8 0 :: .int .u8 0 :: .int .u8 0 :: .int .u8 0 :: .int .u8 0 :: .int .u8 0 :: .int .i64 0 :: Value.slice none 0 0 :: [])) rfl) ?_))
    refine z5 rfl rfl (zE y9 rfl rfl qL qO qU qW ?_)
    refine z9 rfl rfl (z9 rfl rfl (z7 (zZ (A := cl b4 54 (Value.int .u8 0 :: .int .u8 0 :: .int .u8 0 :: .int .u8 0 :: .int .u8 0 :: .int .u8 0 :: .int .u8 0 :: .int .u8 0 :: .int .u8 0 :: .int .u8 0 :: .int .u8 0 :: .int .u8 0 :: .int .u8 0 :: .int .u8 0 :: .int .u8 0 :: .int .u8 0 :: .int .u8 0 :: .int .u8 0 :: .int .u8 0 :: .int .u8 0 :: .int .u8 0 :: .int .u8 0 :: .int .u8 0 :: .int .u8 0 :: .int .u8 0 :: .int .u8 0 :: .int .u8 0 :: .int .u8 0 :: .int .u8 0 :: .int .u8 0 :: .int .u8 0 :: .int .u8 0 :: .int .i64 0 :: Value.slice none 0 0 :: [])) (B := cl b4 54 (inC zP none 0 0)) qP rfl ?_)))
    refine yF (sz := 32) (e := 38) ?_
    refine zZ qP (show own 32 38 none 0 0 [] = own 32 38 none 0 0 ((([] : List ID32)).map iC) from rfl) ?_
    refine yD (rows := ([] : List ID32).map iC) qP ?_
    refine yF (sz := 34) (e := 45) ?_
    refine zZ qP (show own 34 45 none 0 0 [] = own 34 45 none 0 0 ((([] : List Ob)).map obC) from rfl) ?_
    refine yD (rows := ([] : List Ob).map obC) qP ?_
    refine z4 (zi (zD ?_))
    have hO : ofI x l = (zP, [], [], (ofB x).2.2) := by unfold ofI; rw [if_neg h17, if_neg jO, if_pos h35]
    exact T.retATT rfl y9 rfl qN rfl rfl ⟨none, none, 0, 0, 0, 0, l, by rw [hO] <;> rfl, .inl hnf, by rw [hO] <;> rfl, by rw [hO] <;> rfl, by rw [hO] <;> rfl, rfl⟩ qD qF
   ·try simp only [dq] at h35
    refine zm (z4 (z6 (z8 (zp rfl ag51 rfl qN ?_))))
    refine z5 rfl rfl (yw rfl bu54 (yQ rfl rfl (by first | with_reducible assumption | (simp; done) | (simp only [List.length_map]; with_reducible assumption) | (simp [*]; done) | rfl) (Nat.le_of_ble_eq_true rfl) qR <| zB rfl rfl rfl <| zO (out := []) rfl) ?_)
    refine zv (t := 40) (u := .agg (inC (ofB x).1 sa sn sc).toArray) rfl (by first | rfl | simp) ?_
    refine z5 rfl rfl (zE y9 rfl rfl qL qO qU qW ?_)
    refine z9 rfl rfl (z9 rfl rfl (z7 (z4 (zi ?_))))
    have hO : ofI x l = ((ofB x).1, l, (ofB x).2.1, 0) := by unfold ofI; rw [if_neg h17, if_neg jO, if_neg h35]
    exact T.retATT rfl y9 rfl qN rfl rfl ⟨sa, ma, sn, sc, mn, mc, l, by rw [hO] <;> rfl, .inl hnf, by rw [hO]; exact hsn, by rw [hO]; exact hmn, by rw [hO] <;> rfl, rfl⟩ qD qF
end Cv
