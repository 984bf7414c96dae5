/-
  The walks: the law on what is there.
-/
import Derived.Test.YtahkbpiinbepcaaGreatTb22
import Derived.Test.YtahkbpiinbepcaaGreatProg
import Derived.KernelRfl
set_option linter.unusedVariables false
set_option linter.unusedSimpArgs false
set_option linter.unusedSectionVars false
set_option maxHeartbeats 400000
set_option maxRecDepth 10000
namespace Cv
open Go Go.Proofs

theorem frth_law {z : Int} (hzb : -9223372036854775808 ≤ z ∧ z ≤ 9223372036854775807) : Spec Tryz.prog 12 [.int .i64 z] [] [] (fun v D' M' => v = .bool true ∧ D' = [] ∧ M' = []) := by
 refine zF (n := 88) Tryz.func12 ?_
 intro σ D M
 refine z6 (z8 (z9 rfl rfl (z7 (z4 (z6 (z6 (z8 (y2 rfl (evs.nil) qD qS (awake22_spec) jF ?_))))))))
 refine yU rfl rfl (z7 (z4 (yI rfl rfl ?_)))
 refine zp (z4 (z6 (z8 (z5 rfl rfl (zy rfl (ev1 rfl) qD qS (made_spec hzb) ?_)))))
 rintro _ _ _ ⟨ma, mb, ml, mc, ol, oc, rfl, hml, hol, rfl, rfl⟩
 refine zw qA qA ?_
 obtain ⟨k, hk⟩ : ∃ k, k = (z % 8).toNat := ⟨_, rfl⟩
 have hk8 : k < 8 := by omega
 rw [← hk] at hml hol ⊢
 have hz8 := md_len k
 have hzs := md_sz k
 have hzo := md_olen hk8
 have hz3 := md_3 hk8
 obtain ⟨Z, hZ⟩ : ∃ x, x = md k := ⟨_, rfl⟩
 rw [← hZ] at hml hol hz8 hzs hzo hz3 ⊢
 have hin := inC_len Z.1 ma ml mc
 have hp32 := Z.1.1.2
 obtain ⟨w, hw⟩ : ∃ y, y = nm k := ⟨_, rfl⟩
 have hw2 := w.2
 have hw3 := zM w
 obtain ⟨sn, hth⟩ := th22 hk8
 rw [← hZ, ← hw] at hth
 have hasc : Z.2.1.Pairwise (fun x y => x.1 < y.1) := by rw [hZ, md_refs hk8]; exact (sortF_names _).asc
 have hu1 : Uni [pth k] := fun o ho => ⟨k, hk8, by rw [List.mem_singleton.1 ho]; exact (pth_in hk8).1⟩
 have hs1 : Shf [pth k] := fun o ho => md_shf hk8 o (by rw [List.mem_singleton.1 ho]; exact (pth_in hk8).1)
 have htk : Z.2.2.take 1 = [pth k] := by rw [hZ]; exact md_tk hk8
 refine z5 rfl rfl (zO rfl rfl rfl (zO rfl rfl rfl (zW rfl ze54 (fun b3 => ?_))))
 refine zN ag54 rfl rfl qL qO qU qW ?_
 refine z9 rfl rfl (z7 (y8 (A := cl b3 54 (inC Z.1 ma ml mc)) qP ?_))
 refine yP (a := mb) (len := ol) (cap := oc) (rows := Z.2.2.map obC) qM (fun hql hqc => ?_)
 refine yx (sz := 34) (e := 45) ?_
 refine zQ qP (show own 34 45 none 0 0 [] = own 34 45 none 0 0 (([] : List Ob).map obC) from rfl) ?_
 refine yB (rows := ([] : List Ob).map obC) qP ?_
 refine z4 (z6 (z8 (z9 rfl rfl (z7 (z4 (z6 (z8 (yp rfl bu26 (zJ (out := [Value.slice none 0 0]) rfl) ?_))))))))
 refine L.mkIface rfl xh (by intro i q; cases q) rfl ?_
 refine z5 rfl rfl (zu rfl ag54 rfl qN ?_)
 refine y2 rfl (ev1 rfl) qD qS (iname_spec (l := Z.2.1) (p := Z.1) jO jO) jF ?_
 rw [show inN Z.1 Z.2.1 = w from by rw [hw, hZ, nm_eq]]
 refine zy rfl (ev3 rfl rfl rfl) qD qS (of_spec (ft := 48) (cs := []) (d1 := rsl 34 none 0 0 (([] : List Ob).map obC)) (d2 := rsl 34 none 0 0 (([] : List Ob).map obC)) (os := []) (tb := fun _ => true) (F := 41) (x := w) jD shf_nil (uni_ptd uni_nil) (fun y => all22_spec) (by rw [hw]; exact uni_pd uni_nil 41 k jO hk8)) ?_
 rintro _ _ _ ⟨pa1, pn1, pc1, wa1, wn1, wc1, ra1, rn1, rc1, rfl, hp1_, hw1_, hr1_, rfl, rfl⟩
 refine zw qA qA ?_
 have hR1 := fp_t (os := []) (tb := fun _ => true) (f := 40) (x := w) (s := fs0) (fun q => by cases q) rfl
 rw [hR1] at hp1_ hw1_ hr1_ ⊢
 rw [frO_t rfl] at hp1_ hw1_ hr1_ ⊢
 rw [frE_t rfl]
 dsimp only at hp1_ hw1_ hr1_
 obtain rfl : pn1 = 0 := hp1_.symm
 obtain rfl : wn1 = 0 := hw1_.symm
 obtain rfl : rn1 = 0 := hr1_.symm
 refine z5 rfl rfl (zO rfl rfl rfl (zO rfl rfl rfl (zW rfl ze78 (fun b6 => ?_))))
 refine zN ag78 rfl rfl qL qO qU qW ?_
 refine z9 rfl rfl (z7 (y8 (A := cl b6 78 [.slice pa1 0 pc1, .slice wa1 0 wc1, .slice ra1 0 rc1]) qP ?_))
 refine z4 (z6 (z8 (L.makeFunc rfl (ev1 rfl) ?_)))
 refine z9 rfl rfl (z7 (z4 (z6 (yj (fun K' D' M' => ∃ (b9 : Nat) (pa2 : Option Addr) (pc2 : Nat) (wa2 : Option Addr) (wc2 : Nat) (ra2 : Option Addr) (rn2 rc2 : Nat), K' = [(9, .pointer (some ⟨b9, 0, none⟩)), (10, .int .i64 0)] ∧ D' = [cl b9 78 [.slice pa2 1 pc2, .slice wa2 1 wc2, .slice ra2 rn2 rc2], rsl 34 wa2 1 wc2 (([(2, Z.1.1, 292)]).map wnC)] ∧ M' = []) (M0 := []) (.cons (t := 3) rfl <| .cons (t := 6) rfl <| .cons (t := 7) rfl <| za _) qS ?_ ?_))))
 ·skip
  refine yq (clsL [1, 2, 1, 1, 1, 1, 2, 2, 1, 1, 1, 2, 2, 1]) qk ?_
  refine ze 0 rfl rfl (z5 rfl rfl (zd (ze 4 rfl rfl (z5 rfl rfl (zd (ze 5 rfl rfl (zu rfl ag54 rfl qN ?_)))))))
  refine zd (yL (is := [1, 6, 11]) qk jD (yh rfl ?_ <| yh rfl ?_ <| yh rfl ?_ <| yM) )
  ·skip
   refine L.sliceR rfl x6 sz45 rfl Bd.no (Bd.at (x := 1) rfl jR) qM qI qI qI (fun a30 => ?_)
   refine L.derive (ψ := rsl 34 a30 (1 - 0) (oc - 0) (([pth k] : List Ob).map obC)) (List.Mem.head _) (fun z H => by rw [← htk, List.map_take]; exact H) ?_
   refine zj rfl qD ?_
   refine ze 2 rfl rfl (yp rfl bu26 (zz rfl rfl rfl <| zJ (out := []) rfl) ?_)
   refine zd (ze 3 rfl rfl (L.mkIface rfl xh (by intro i q; cases q) rfl ?_))
   refine zd (yL (is := [6, 11]) qk jD (yh rfl ?_ <| yh rfl ?_ <| yM) )
   ·skip
    refine y2 rfl (ev1 rfl) qD qS (iname_spec (l := Z.2.1) (p := Z.1) jO jO) jF ?_
    rw [show inN Z.1 Z.2.1 = w from by rw [hw, hZ, nm_eq]]
    refine zj rfl qD ?_
    refine yL (is := [7, 11]) qk jD (yh rfl ?_ <| yh rfl ?_ <| yM) 
    ·skip
     refine zy rfl (ev3 rfl rfl rfl) qD qS (of_spec (ft := 49) (cs := [.pointer (some ⟨b3, 0, none⟩)]) (d1 := cl b3 54 (inC Z.1 ma ml mc)) (d2 := rsl 32 ma ml mc (Z.2.1.map iC)) (os := [pth k]) (tb := fun y => decide (y ∈ Z.2.1)) (F := 41) (x := w) jD hs1 (uni_ptd hu1) (fun y => rf22_spec hasc jO) (by rw [hw]; exact uni_pd hu1 41 k jO hk8)) ?_
     rintro _ _ _ ⟨pa2, pn2, pc2, wa2, wn2, wc2, ra2, rn2, rc2, rfl, hp2_, hw2_, hr2_, rfl, rfl⟩
     refine zw qA qA ?_
     have hR2 := hth
     rw [hR2] at hp2_ hw2_ hr2_ ⊢
     rw [frO_t rfl] at hp2_ hw2_ hr2_ ⊢
     rw [frE_t rfl]
     dsimp only at hp2_ hw2_ hr2_
     obtain rfl : pn2 = 1 := hp2_.symm
     obtain rfl : wn2 = 1 := hw2_.symm
     refine zj rfl qD ?_
     refine ze 8 rfl rfl (z5 rfl rfl (zd (ze 9 rfl rfl (zO rfl rfl rfl (zd (ze 10 rfl rfl (zO rfl rfl rfl (zd (zo 11 rfl (zW rfl ze78 (fun b9 => ?_)))))))))))
     refine zj rfl qD ?_
     refine zo 12 rfl (zN ag78 rfl rfl qL qO qU qW ?_)
     refine zj rfl qD ?_
     refine ze 13 rfl rfl (z9 rfl rfl (zd (zX qk ?_)))
     refine y8 (A := cl b9 78 [.slice pa2 1 pc2, .slice wa2 1 wc2, .slice ra2 rn2 rc2]) qP ?_
     exact z4 (zD ⟨_, _, _, _, _, _, _, _, rfl, rfl, rfl⟩ (.cons (t := 9) rfl <| .cons (t := 10) rfl <| za _) (.cons (t := 3) rfl <| .cons (t := 6) rfl <| .cons (t := 7) rfl <| za _) qD qD qF)
    ·skip
     refine zW rfl ze78 (fun b9 => ?_)
     refine zj rfl qD ?_
     refine zo 7 rfl (zy rfl (ev3 rfl rfl rfl) qD qS (of_spec (ft := 49) (cs := [.pointer (some ⟨b3, 0, none⟩)]) (d1 := cl b3 54 (inC Z.1 ma ml mc)) (d2 := rsl 32 ma ml mc (Z.2.1.map iC)) (os := [pth k]) (tb := fun y => decide (y ∈ Z.2.1)) (F := 41) (x := w) jD hs1 (uni_ptd hu1) (fun y => rf22_spec hasc jO) (by rw [hw]; exact uni_pd hu1 41 k jO hk8)) ?_)
     rintro _ _ _ ⟨pa2, pn2, pc2, wa2, wn2, wc2, ra2, rn2, rc2, rfl, hp2_, hw2_, hr2_, rfl, rfl⟩
     refine zw qA qA ?_
     have hR2 := hth
     rw [hR2] at hp2_ hw2_ hr2_ ⊢
     rw [frO_t rfl] at hp2_ hw2_ hr2_ ⊢
     rw [frE_t rfl]
     dsimp only at hp2_ hw2_ hr2_
     obtain rfl : pn2 = 1 := hp2_.symm
     obtain rfl : wn2 = 1 := hw2_.symm
     refine zj rfl qD ?_
     refine ze 8 rfl rfl (z5 rfl rfl (zd (ze 9 rfl rfl (zO rfl rfl rfl (zd (ze 10 rfl rfl (zO rfl rfl rfl (zd (zo 12 rfl (zN ag78 rfl rfl qL qO qU qW ?_))))))))))
     refine zj rfl qD ?_
     refine ze 13 rfl rfl (z9 rfl rfl (zd (zX qk ?_)))
     refine y8 (A := cl b9 78 [.slice pa2 1 pc2, .slice wa2 1 wc2, .slice ra2 rn2 rc2]) qP ?_
     exact z4 (zD ⟨_, _, _, _, _, _, _, _, rfl, rfl, rfl⟩ (.cons (t := 9) rfl <| .cons (t := 10) rfl <| za _) (.cons (t := 3) rfl <| .cons (t := 6) rfl <| .cons (t := 7) rfl <| za _) qD qD qF)
   ·skip
    refine zW rfl ze78 (fun b9 => ?_)
    refine zj rfl qD ?_
    refine zo 6 rfl (y2 rfl (ev1 rfl) qD qS (iname_spec (l := Z.2.1) (p := Z.1) jO jO) jF ?_)
    rw [show inN Z.1 Z.2.1 = w from by rw [hw, hZ, nm_eq]]
    refine zj rfl qD ?_
    refine zo 7 rfl (zy rfl (ev3 rfl rfl rfl) qD qS (of_spec (ft := 49) (cs := [.pointer (some ⟨b3, 0, none⟩)]) (d1 := cl b3 54 (inC Z.1 ma ml mc)) (d2 := rsl 32 ma ml mc (Z.2.1.map iC)) (os := [pth k]) (tb := fun y => decide (y ∈ Z.2.1)) (F := 41) (x := w) jD hs1 (uni_ptd hu1) (fun y => rf22_spec hasc jO) (by rw [hw]; exact uni_pd hu1 41 k jO hk8)) ?_)
    rintro _ _ _ ⟨pa2, pn2, pc2, wa2, wn2, wc2, ra2, rn2, rc2, rfl, hp2_, hw2_, hr2_, rfl, rfl⟩
    refine zw qA qA ?_
    have hR2 := hth
    rw [hR2] at hp2_ hw2_ hr2_ ⊢
    rw [frO_t rfl] at hp2_ hw2_ hr2_ ⊢
    rw [frE_t rfl]
    dsimp only at hp2_ hw2_ hr2_
    obtain rfl : pn2 = 1 := hp2_.symm
    obtain rfl : wn2 = 1 := hw2_.symm
    refine zj rfl qD ?_
    refine ze 8 rfl rfl (z5 rfl rfl (zd (ze 9 rfl rfl (zO rfl rfl rfl (zd (ze 10 rfl rfl (zO rfl rfl rfl (zd (zo 12 rfl (zN ag78 rfl rfl qL qO qU qW ?_))))))))))
    refine zj rfl qD ?_
    refine ze 13 rfl rfl (z9 rfl rfl (zd (zX qk ?_)))
    refine y8 (A := cl b9 78 [.slice pa2 1 pc2, .slice wa2 1 wc2, .slice ra2 rn2 rc2]) qP ?_
    exact z4 (zD ⟨_, _, _, _, _, _, _, _, rfl, rfl, rfl⟩ (.cons (t := 9) rfl <| .cons (t := 10) rfl <| za _) (.cons (t := 3) rfl <| .cons (t := 6) rfl <| .cons (t := 7) rfl <| za _) qD qD qF)
  ·skip
   refine y2 rfl (ev1 rfl) qD qS (iname_spec (l := Z.2.1) (p := Z.1) jO jO) jF ?_
   rw [show inN Z.1 Z.2.1 = w from by rw [hw, hZ, nm_eq]]
   refine zj rfl qD ?_
   refine yL (is := [1, 11]) qk jD (yh rfl ?_ <| yh rfl ?_ <| yM) 
   ·skip
    refine L.sliceR rfl x6 sz45 rfl Bd.no (Bd.at (x := 1) rfl jR) qM qI qI qI (fun a30 => ?_)
    refine L.derive (ψ := rsl 34 a30 (1 - 0) (oc - 0) (([pth k] : List Ob).map obC)) (List.Mem.head _) (fun z H => by rw [← htk, List.map_take]; exact H) ?_
    refine zj rfl qD ?_
    refine ze 2 rfl rfl (yp rfl bu26 (zz rfl rfl rfl <| zJ (out := []) rfl) ?_)
    refine zd (ze 3 rfl rfl (L.mkIface rfl xh (by intro i q; cases q) rfl ?_))
    refine zd (yL (is := [7, 11]) qk jD (yh rfl ?_ <| yh rfl ?_ <| yM) )
    ·skip
     refine zy rfl (ev3 rfl rfl rfl) qD qS (of_spec (ft := 49) (cs := [.pointer (some ⟨b3, 0, none⟩)]) (d1 := cl b3 54 (inC Z.1 ma ml mc)) (d2 := rsl 32 ma ml mc (Z.2.1.map iC)) (os := [pth k]) (tb := fun y => decide (y ∈ Z.2.1)) (F := 41) (x := w) jD hs1 (uni_ptd hu1) (fun y => rf22_spec hasc jO) (by rw [hw]; exact uni_pd hu1 41 k jO hk8)) ?_
     rintro _ _ _ ⟨pa2, pn2, pc2, wa2, wn2, wc2, ra2, rn2, rc2, rfl, hp2_, hw2_, hr2_, rfl, rfl⟩
     refine zw qA qA ?_
     have hR2 := hth
     rw [hR2] at hp2_ hw2_ hr2_ ⊢
     rw [frO_t rfl] at hp2_ hw2_ hr2_ ⊢
     rw [frE_t rfl]
     dsimp only at hp2_ hw2_ hr2_
     obtain rfl : pn2 = 1 := hp2_.symm
     obtain rfl : wn2 = 1 := hw2_.symm
     refine zj rfl qD ?_
     refine ze 8 rfl rfl (z5 rfl rfl (zd (ze 9 rfl rfl (zO rfl rfl rfl (zd (ze 10 rfl rfl (zO rfl rfl rfl (zd (zo 11 rfl (zW rfl ze78 (fun b9 => ?_)))))))))))
     refine zj rfl qD ?_
     refine zo 12 rfl (zN ag78 rfl rfl qL qO qU qW ?_)
     refine zj rfl qD ?_
     refine ze 13 rfl rfl (z9 rfl rfl (zd (zX qk ?_)))
     refine y8 (A := cl b9 78 [.slice pa2 1 pc2, .slice wa2 1 wc2, .slice ra2 rn2 rc2]) qP ?_
     exact z4 (zD ⟨_, _, _, _, _, _, _, _, rfl, rfl, rfl⟩ (.cons (t := 9) rfl <| .cons (t := 10) rfl <| za _) (.cons (t := 3) rfl <| .cons (t := 6) rfl <| .cons (t := 7) rfl <| za _) qD qD qF)
    ·skip
     refine zW rfl ze78 (fun b9 => ?_)
     refine zj rfl qD ?_
     refine zo 7 rfl (zy rfl (ev3 rfl rfl rfl) qD qS (of_spec (ft := 49) (cs := [.pointer (some ⟨b3, 0, none⟩)]) (d1 := cl b3 54 (inC Z.1 ma ml mc)) (d2 := rsl 32 ma ml mc (Z.2.1.map iC)) (os := [pth k]) (tb := fun y => decide (y ∈ Z.2.1)) (F := 41) (x := w) jD hs1 (uni_ptd hu1) (fun y => rf22_spec hasc jO) (by rw [hw]; exact uni_pd hu1 41 k jO hk8)) ?_)
     rintro _ _ _ ⟨pa2, pn2, pc2, wa2, wn2, wc2, ra2, rn2, rc2, rfl, hp2_, hw2_, hr2_, rfl, rfl⟩
     refine zw qA qA ?_
     have hR2 := hth
     rw [hR2] at hp2_ hw2_ hr2_ ⊢
     rw [frO_t rfl] at hp2_ hw2_ hr2_ ⊢
     rw [frE_t rfl]
     dsimp only at hp2_ hw2_ hr2_
     obtain rfl : pn2 = 1 := hp2_.symm
     obtain rfl : wn2 = 1 := hw2_.symm
     refine zj rfl qD ?_
     refine ze 8 rfl rfl (z5 rfl rfl (zd (ze 9 rfl rfl (zO rfl rfl rfl (zd (ze 10 rfl rfl (zO rfl rfl rfl (zd (zo 12 rfl (zN ag78 rfl rfl qL qO qU qW ?_))))))))))
     refine zj rfl qD ?_
     refine ze 13 rfl rfl (z9 rfl rfl (zd (zX qk ?_)))
     refine y8 (A := cl b9 78 [.slice pa2 1 pc2, .slice wa2 1 wc2, .slice ra2 rn2 rc2]) qP ?_
     exact z4 (zD ⟨_, _, _, _, _, _, _, _, rfl, rfl, rfl⟩ (.cons (t := 9) rfl <| .cons (t := 10) rfl <| za _) (.cons (t := 3) rfl <| .cons (t := 6) rfl <| .cons (t := 7) rfl <| za _) qD qD qF)
   ·skip
    refine zW rfl ze78 (fun b9 => ?_)
    refine zj rfl qD ?_
    refine zo 1 rfl (L.sliceR rfl x6 sz45 rfl Bd.no (Bd.at (x := 1) rfl jR) qM qI qI qI (fun a30 => ?_))
    refine L.derive (ψ := rsl 34 a30 (1 - 0) (oc - 0) (([pth k] : List Ob).map obC)) (List.Mem.head _) (fun z H => by rw [← htk, List.map_take]; exact H) ?_
    refine zj rfl qD ?_
    refine ze 2 rfl rfl (yp rfl bu26 (zz rfl rfl rfl <| zJ (out := []) rfl) ?_)
    refine zd (ze 3 rfl rfl (L.mkIface rfl xh (by intro i q; cases q) rfl ?_))
    refine zd (zo 7 rfl (zy rfl (ev3 rfl rfl rfl) qD qS (of_spec (ft := 49) (cs := [.pointer (some ⟨b3, 0, none⟩)]) (d1 := cl b3 54 (inC Z.1 ma ml mc)) (d2 := rsl 32 ma ml mc (Z.2.1.map iC)) (os := [pth k]) (tb := fun y => decide (y ∈ Z.2.1)) (F := 41) (x := w) jD hs1 (uni_ptd hu1) (fun y => rf22_spec hasc jO) (by rw [hw]; exact uni_pd hu1 41 k jO hk8)) ?_))
    rintro _ _ _ ⟨pa2, pn2, pc2, wa2, wn2, wc2, ra2, rn2, rc2, rfl, hp2_, hw2_, hr2_, rfl, rfl⟩
    refine zw qA qA ?_
    have hR2 := hth
    rw [hR2] at hp2_ hw2_ hr2_ ⊢
    rw [frO_t rfl] at hp2_ hw2_ hr2_ ⊢
    rw [frE_t rfl]
    dsimp only at hp2_ hw2_ hr2_
    obtain rfl : pn2 = 1 := hp2_.symm
    obtain rfl : wn2 = 1 := hw2_.symm
    refine zj rfl qD ?_
    refine ze 8 rfl rfl (z5 rfl rfl (zd (ze 9 rfl rfl (zO rfl rfl rfl (zd (ze 10 rfl rfl (zO rfl rfl rfl (zd (zo 12 rfl (zN ag78 rfl rfl qL qO qU qW ?_))))))))))
    refine zj rfl qD ?_
    refine ze 13 rfl rfl (z9 rfl rfl (zd (zX qk ?_)))
    refine y8 (A := cl b9 78 [.slice pa2 1 pc2, .slice wa2 1 wc2, .slice ra2 rn2 rc2]) qP ?_
    exact z4 (zD ⟨_, _, _, _, _, _, _, _, rfl, rfl, rfl⟩ (.cons (t := 9) rfl <| .cons (t := 10) rfl <| za _) (.cons (t := 3) rfl <| .cons (t := 6) rfl <| .cons (t := 7) rfl <| za _) qD qD qF)
  ·skip
   refine zW rfl ze78 (fun b9 => ?_)
   refine zj rfl qD ?_
   refine yL (is := [1, 6]) qk jD (yh rfl ?_ <| yh rfl ?_ <| yM) 
   ·skip
    refine L.sliceR rfl x6 sz45 rfl Bd.no (Bd.at (x := 1) rfl jR) qM qI qI qI (fun a30 => ?_)
    refine L.derive (ψ := rsl 34 a30 (1 - 0) (oc - 0) (([pth k] : List Ob).map obC)) (List.Mem.head _) (fun z H => by rw [← htk, List.map_take]; exact H) ?_
    refine zj rfl qD ?_
    refine ze 2 rfl rfl (yp rfl bu26 (zz rfl rfl rfl <| zJ (out := []) rfl) ?_)
    refine zd (ze 3 rfl rfl (L.mkIface rfl xh (by intro i q; cases q) rfl ?_))
    refine zd (zo 6 rfl (y2 rfl (ev1 rfl) qD qS (iname_spec (l := Z.2.1) (p := Z.1) jO jO) jF ?_))
    rw [show inN Z.1 Z.2.1 = w from by rw [hw, hZ, nm_eq]]
    refine zj rfl qD ?_
    refine zo 7 rfl (zy rfl (ev3 rfl rfl rfl) qD qS (of_spec (ft := 49) (cs := [.pointer (some ⟨b3, 0, none⟩)]) (d1 := cl b3 54 (inC Z.1 ma ml mc)) (d2 := rsl 32 ma ml mc (Z.2.1.map iC)) (os := [pth k]) (tb := fun y => decide (y ∈ Z.2.1)) (F := 41) (x := w) jD hs1 (uni_ptd hu1) (fun y => rf22_spec hasc jO) (by rw [hw]; exact uni_pd hu1 41 k jO hk8)) ?_)
    rintro _ _ _ ⟨pa2, pn2, pc2, wa2, wn2, wc2, ra2, rn2, rc2, rfl, hp2_, hw2_, hr2_, rfl, rfl⟩
    refine zw qA qA ?_
    have hR2 := hth
    rw [hR2] at hp2_ hw2_ hr2_ ⊢
    rw [frO_t rfl] at hp2_ hw2_ hr2_ ⊢
    rw [frE_t rfl]
    dsimp only at hp2_ hw2_ hr2_
    obtain rfl : pn2 = 1 := hp2_.symm
    obtain rfl : wn2 = 1 := hw2_.symm
    refine zj rfl qD ?_
    refine ze 8 rfl rfl (z5 rfl rfl (zd (ze 9 rfl rfl (zO rfl rfl rfl (zd (ze 10 rfl rfl (zO rfl rfl rfl (zd (zo 12 rfl (zN ag78 rfl rfl qL qO qU qW ?_))))))))))
    refine zj rfl qD ?_
    refine ze 13 rfl rfl (z9 rfl rfl (zd (zX qk ?_)))
    refine y8 (A := cl b9 78 [.slice pa2 1 pc2, .slice wa2 1 wc2, .slice ra2 rn2 rc2]) qP ?_
    exact z4 (zD ⟨_, _, _, _, _, _, _, _, rfl, rfl, rfl⟩ (.cons (t := 9) rfl <| .cons (t := 10) rfl <| za _) (.cons (t := 3) rfl <| .cons (t := 6) rfl <| .cons (t := 7) rfl <| za _) qD qD qF)
   ·skip
    refine y2 rfl (ev1 rfl) qD qS (iname_spec (l := Z.2.1) (p := Z.1) jO jO) jF ?_
    rw [show inN Z.1 Z.2.1 = w from by rw [hw, hZ, nm_eq]]
    refine zj rfl qD ?_
    refine zo 1 rfl (L.sliceR rfl x6 sz45 rfl Bd.no (Bd.at (x := 1) rfl jR) qM qI qI qI (fun a30 => ?_))
    refine L.derive (ψ := rsl 34 a30 (1 - 0) (oc - 0) (([pth k] : List Ob).map obC)) (List.Mem.head _) (fun z H => by rw [← htk, List.map_take]; exact H) ?_
    refine zj rfl qD ?_
    refine ze 2 rfl rfl (yp rfl bu26 (zz rfl rfl rfl <| zJ (out := []) rfl) ?_)
    refine zd (ze 3 rfl rfl (L.mkIface rfl xh (by intro i q; cases q) rfl ?_))
    refine zd (zo 7 rfl (zy rfl (ev3 rfl rfl rfl) qD qS (of_spec (ft := 49) (cs := [.pointer (some ⟨b3, 0, none⟩)]) (d1 := cl b3 54 (inC Z.1 ma ml mc)) (d2 := rsl 32 ma ml mc (Z.2.1.map iC)) (os := [pth k]) (tb := fun y => decide (y ∈ Z.2.1)) (F := 41) (x := w) jD hs1 (uni_ptd hu1) (fun y => rf22_spec hasc jO) (by rw [hw]; exact uni_pd hu1 41 k jO hk8)) ?_))
    rintro _ _ _ ⟨pa2, pn2, pc2, wa2, wn2, wc2, ra2, rn2, rc2, rfl, hp2_, hw2_, hr2_, rfl, rfl⟩
    refine zw qA qA ?_
    have hR2 := hth
    rw [hR2] at hp2_ hw2_ hr2_ ⊢
    rw [frO_t rfl] at hp2_ hw2_ hr2_ ⊢
    rw [frE_t rfl]
    dsimp only at hp2_ hw2_ hr2_
    obtain rfl : pn2 = 1 := hp2_.symm
    obtain rfl : wn2 = 1 := hw2_.symm
    refine zj rfl qD ?_
    refine ze 8 rfl rfl (z5 rfl rfl (zd (ze 9 rfl rfl (zO rfl rfl rfl (zd (ze 10 rfl rfl (zO rfl rfl rfl (zd (zo 12 rfl (zN ag78 rfl rfl qL qO qU qW ?_))))))))))
    refine zj rfl qD ?_
    refine ze 13 rfl rfl (z9 rfl rfl (zd (zX qk ?_)))
    refine y8 (A := cl b9 78 [.slice pa2 1 pc2, .slice wa2 1 wc2, .slice ra2 rn2 rc2]) qP ?_
    exact z4 (zD ⟨_, _, _, _, _, _, _, _, rfl, rfl, rfl⟩ (.cons (t := 9) rfl <| .cons (t := 10) rfl <| za _) (.cons (t := 3) rfl <| .cons (t := 6) rfl <| .cons (t := 7) rfl <| za _) qD qD qF)
 rintro _ _ _ ⟨b9, pa2, pc2, wa2, wc2, ra2, rn2, rc2, rfl, rfl, rfl⟩
 refine zC qA qA qA ?_
 refine z4 (z6 (z6 (z8 (z5 rfl rfl (L.neI rfl rfl rfl (z5 rfl rfl (zt (t := 41) rfl (show _ = Value.bool false from congrArg Value.bool (decide_eq_false (fun q => q rfl))) ?_)))))))
 refine zf (dj := 41) rfl rfl rfl (zh rfl fo78_0 rfl ?_)
 refine zf (dj := 41) rfl rfl rfl (zi rfl sc30 rfl qC ?_)
 refine zf (dj := 41) rfl rfl rfl (y6 rfl zA rfl (zf (dj := 41) rfl rfl rfl (zh rfl fo78_1 rfl ?_)))
 refine zf (dj := 41) rfl rfl rfl (zi rfl sc76 rfl qC ?_)
 refine zf (dj := 41) rfl rfl rfl (y6 rfl xc rfl (zf (dj := 41) rfl rfl rfl (zG rfl rfl rfl jO ?_)))
 refine zf (dj := 41) rfl rfl rfl (zh rfl fo78_2 rfl ?_)
 refine zf (dj := 41) rfl rfl rfl (zi rfl sc30 rfl qC ?_)
 refine zf (dj := 41) rfl rfl rfl (y6 rfl zA rfl (zf (dj := 41) rfl rfl rfl (zG rfl rfl rfl jO ?_)))
 refine zf (dj := 41) rfl rfl rfl (L.neI rfl rfl rfl (yg rfl rfl rfl (z5 rfl rfl (zt (t := 55) rfl (show _ = Value.bool false from congrArg Value.bool (decide_eq_false jO)) ?_))))
 refine zf (dj := 55) rfl rfl rfl (z5 rfl rfl (zf (dj := 55) rfl rfl rfl (L.neI rfl rfl rfl (yg rfl rfl rfl (z7 (z4 (yI rfl (decide_eq_false (fun q => q rfl)) ?_)))))))
 refine zp (z4 (z6 ?_))
 have hg0 : (([(2, Z.1.1, 292)] : List Wnt).map wnC)[0]? = some (wnC (2, Z.1.1, 292)) := rfl
 refine T.rslAddr (a := wa2) (len := 1) (cap := wc2) (rows := ([(2, Z.1.1, 292)] : List Wnt).map wnC) qM (fun e => (by cases e)) (fun bo oo ha => ?_)
 subst ha
 refine yn qk qk (zh rfl fo78_0 rfl ?_)
 refine zi rfl sc30 rfl qC ?_
 refine y6 rfl zA rfl (yu rfl rfl rfl (z5 rfl rfl (zt (t := 63) rfl (show _ = Value.bool true from congrArg Value.bool (decide_eq_true rfl)) ?_)))
 refine zf (dj := 63) rfl rfl rfl (zh rfl fo78_1 rfl ?_)
 refine zf (dj := 63) rfl rfl rfl (zi rfl sc76 rfl qC ?_)
 refine zf (dj := 63) rfl rfl rfl (y6 rfl xc rfl (zf (dj := 63) rfl rfl rfl (yu rfl rfl rfl (y9 rfl rfl rfl (z5 rfl rfl (zt (t := 69) rfl (show _ = Value.bool true from congrArg Value.bool (decide_eq_true rfl)) ?_))))))
 refine zf (dj := 69) rfl rfl rfl (zh rfl fo78_1 rfl ?_)
 refine zf (dj := 69) rfl rfl rfl (zi rfl sc76 rfl qC ?_)
 refine zf (dj := 69) rfl rfl rfl (L.idxR (i := 0) rfl xc sz90 rfl rfl qM jR qI qG ?_)
 refine zf (dj := 69) rfl rfl rfl (zh rfl fo90_1 rfl ?_)
 refine zf (dj := 69) rfl rfl rfl (zu rfl zx rfl (CellsN.ofDs qM (at_w1 (2, Z.1.1, 292))) ?_)
 refine zf (dj := 69) rfl rfl rfl (zh rfl fo54_0 rfl ?_)
 refine zf (dj := 69) rfl rfl rfl (zh rfl fo51_0 rfl ?_)
 refine zf (dj := 69) rfl rfl rfl (zu rfl zx rfl (CellsN.ofF qM (at_id _ _ _ _)) ?_)
 refine zf (dj := 69) rfl rfl rfl (L.eqlArrI qk rfl x9 yA sc5 rfl rfl qL qL ?_)
 refine y9 rfl rfl rfl (z5 rfl rfl (zt (t := 80) rfl (show _ = Value.bool true from congrArg Value.bool (decide_eq_true rfl)) ?_))
 refine zf (dj := 80) rfl rfl rfl (zh rfl fo78_1 rfl ?_)
 refine zf (dj := 80) rfl rfl rfl (zi rfl sc76 rfl qC ?_)
 refine zf (dj := 80) rfl rfl rfl (L.idxR (i := 0) rfl xc sz90 rfl rfl qM jR qI qG ?_)
 refine zf (dj := 80) rfl rfl rfl (zh rfl fo90_0 rfl ?_)
 refine zf (dj := 80) rfl rfl rfl (zi rfl sc3 rfl (Cells.ofDs qM (at_w0 (2, Z.1.1, 292))) ?_)
 exact zf (dj := 80) rfl rfl rfl (yu rfl rfl rfl (y9 rfl rfl rfl (z9 rfl rfl (ym (z4 (zm (zB rfl rfl ⟨congrArg Value.bool (decide_eq_true rfl), rfl, rfl⟩ qD qF)))))))
end Cv
