/-
  The walks: awake.
-/
import Derived.Test.YtahkbpiinbepcaaGreatSb22
import Derived.Test.YtahkbpiinbepcaaGreatProg
import Derived.KernelRfl
set_option linter.unusedVariables false
set_option linter.unusedSimpArgs false
set_option linter.unusedSectionVars false
set_option maxHeartbeats 400000
set_option maxRecDepth 10000
namespace Cv
open Go Go.Proofs
/-! ## the laws of fronts -/
theorem shf_nil : Shf [] := fun o h => by cases h
theorem none22_spec {d1 d2 : Asn} {x : ID32}  : Spec Tryz.prog 47 [.agg (iC x).toArray] [d1, d2] [] (fun v D' M' => v = .bool false ∧ D' = [] ∧ M' = []) := by
 refine zI (n := 3) Tryz.func47 ?_
 intro σ D M
 have hx3 := zX x
 refine z6 (z8 (yt rfl rfl rfl (fun b1 => ?_)))
 exact z9 rfl rfl (z7 (z4 (z6 (z8 (z9 rfl rfl (z7 (z4 (zj (zA rfl rfl ⟨rfl, rfl, rfl⟩ qD qF)))))))))
theorem awake22_spec   : Spec Tryz.prog 42 [] [] [] (fun v D' M' => v = .bool true ∧ D' = [] ∧ M' = []) := by
 refine zI (n := 65) Tryz.func42 ?_
 intro σ D M
 refine z6 (z8 (z9 rfl rfl (z7 (z4 (z6 (z8 (zC rfl (ev1 rfl) qD qS (made_spec (z := 0) jD) ?_)))))))
 rintro _ _ _ ⟨ya, yb, yl, yc, yo, yd, rfl, hyl, hyo, rfl, rfl⟩
 refine zy qA qA ?_
 rw [show ((0 : Int) % 8).toNat = 0 from rfl] at hyl hyo ⊢
 have hy8 := md_len 0
 have hys := md_sz 0
 have hy3 := md_3 (n := 0) jD
 have hy7 := md_olen (n := 0) jD
 obtain ⟨Zy, hZy⟩ : ∃ z, z = md 0 := ⟨_, rfl⟩
 rw [← hZy] at hyl hyo hy8 hys hy3 hy7 ⊢
 have hiny := inC_len Zy.1 ya yl yc
 have hpy := Zy.1.1.2
 refine z5 rfl rfl (zV rfl rfl rfl (zV rfl rfl rfl (zL rfl ze54 (fun b1 => ?_))))
 refine zz ag54 rfl rfl qL qO qU qW ?_
 refine z9 rfl rfl (z7 (yf (A := cl b1 54 (inC Zy.1 ya yl yc)) qP ?_))
 refine yw (sz := 34) (e := 45) ?_
 refine zU qP (show own 34 45 none 0 0 [] = own 34 45 none 0 0 (([] : List Ob).map obC) from rfl) ?_
 refine yA (rows := ([] : List Ob).map obC) qP ?_
 refine z4 (z6 (z8 (ye rfl bu26 (zB (out := [Value.slice none 0 0]) rfl) ?_)))
 refine L.mkIface rfl Tryz.underlying26 (by intro i q; cases q) rfl ?_
 refine zp rfl ag54 rfl qN ?_
 refine zW rfl (ev1 rfl) qD qS (iname_spec (l := Zy.2.1) (p := Zy.1) jO jO) jF ?_
 rw [show inN Zy.1 Zy.2.1 = nm 0 from by rw [hZy, nm_eq]]
 obtain ⟨wy, hwy⟩ : ∃ z, z = nm 0 := ⟨_, rfl⟩
 rw [← hwy]
 have hwy2 := wy.2
 have hwy3 := zX wy
 refine zC rfl (ev3 rfl rfl rfl) qD qS (of_spec (ft := 47) (cs := []) (d1 := rsl 34 none 0 0 (([] : List Ob).map obC)) (d2 := rsl 34 none 0 0 (([] : List Ob).map obC)) (os := []) (tb := fun _ => false) (F := 41) (x := wy) jD shf_nil (uni_ptd uni_nil) (fun y => none22_spec) (by rw [hwy]; exact uni_pd uni_nil 41 0 jD jD)) ?_
 rintro _ _ _ ⟨pa1, pn1, pc1, wa1, wn1, wc1, ra1, rn1, rc1, rfl, hp1_, hw1_, hr1_, rfl, rfl⟩
 refine zy qA qA ?_
 have hR1 := aw22_a (f := 40) (x := wy)
 rw [hR1] at hp1_ hw1_ hr1_ ⊢
 rw [frO_t rfl] at hp1_ hw1_ hr1_ ⊢
 rw [frE_t rfl]
 dsimp only at hp1_ hw1_ hr1_
 obtain rfl : wn1 = 1 := hw1_.symm
 refine z5 rfl rfl (zV rfl rfl rfl (zV rfl rfl rfl (zL rfl ze78 (fun b3 => ?_))))
 refine zz ag78 rfl rfl qL qO qU qW ?_
 refine z9 rfl rfl (z7 (yf (A := cl b3 78 [.slice pa1 pn1 pc1, .slice wa1 1 wc1, .slice ra1 rn1 rc1]) qP ?_))
 refine z4 (z6 (z8 (z5 rfl rfl (ye rfl bu26 (zw rfl rfl rfl <| zB (out := []) rfl) ?_))))
 refine L.mkIface rfl Tryz.underlying26 (by intro i q; cases q) rfl ?_
 refine zp rfl ag54 rfl qN ?_
 refine zW rfl (ev1 rfl) qD qS (iname_spec (l := Zy.2.1) (p := Zy.1) jO jO) jF ?_
 rw [show inN Zy.1 Zy.2.1 = nm 0 from by rw [hZy, nm_eq]]
 rw [← hwy]
 refine zC rfl (ev3 rfl rfl rfl) qD qS (of_spec (ft := 47) (cs := []) (d1 := rsl 34 none 0 0 (([] : List Ob).map obC)) (d2 := rsl 34 none 0 0 (([] : List Ob).map obC)) (os := Zy.2.2) (tb := fun _ => false) (F := 41) (x := wy) jO (by rw [hZy]; exact md_shf jD) (by rw [hZy]; exact uni_ptd (uni_md jD)) (fun y => none22_spec) (by rw [hwy, hZy]; exact uni_pd (uni_md jD) 41 0 jD jD)) ?_
 rintro _ _ _ ⟨pa2, pn2, pc2, wa2, wn2, wc2, ra2, rn2, rc2, rfl, hp2_, hw2_, hr2_, rfl, rfl⟩
 refine zy qA qA ?_
 have hR2 := show pthF Zy.2.2 (fun _ => false) 41 wy fs0 = (⟨[wy], [wy], [], [wy]⟩, true) from by rw [hZy, hwy]; exact aw22_b
 rw [hR2] at hp2_ hw2_ hr2_ ⊢
 rw [frO_t rfl] at hp2_ hw2_ hr2_ ⊢
 rw [frE_t rfl]
 dsimp only at hp2_ hw2_ hr2_
 obtain rfl : wn2 = 0 := hw2_.symm
 obtain rfl : rn2 = 1 := hr2_.symm
 refine z5 rfl rfl (zV rfl rfl rfl (zV rfl rfl rfl (zL rfl ze78 (fun b5 => ?_))))
 refine zz ag78 rfl rfl qL qO qU qW ?_
 refine z9 rfl rfl (z7 (yf (A := cl b5 78 [.slice pa2 pn2 pc2, .slice wa2 0 wc2, .slice ra2 1 rc2]) qP ?_))
 refine z4 (z6 ?_)
 have hg0 : (([(3, wy, 294)] : List Wnt).map wnC)[0]? = some (wnC (3, wy, 294)) := rfl
 refine z8 (z5 rfl rfl (yn rfl rfl rfl (z5 rfl rfl (zv (t := 30) rfl (show _ = Value.bool true from congrArg Value.bool (decide_eq_true rfl)) ?_))))
 refine zf (dj := 30) rfl rfl rfl (zg rfl fo78_1 rfl ?_)
 refine zf (dj := 30) rfl rfl rfl (zi rfl sc76 rfl qC ?_)
 refine zf (dj := 30) rfl rfl rfl (y1 rfl xk rfl (zf (dj := 30) rfl rfl rfl (yn rfl rfl rfl (y6 rfl rfl rfl (z5 rfl rfl (zv (t := 36) rfl (show _ = Value.bool true from congrArg Value.bool (decide_eq_true rfl)) ?_))))))
 refine zf (dj := 36) rfl rfl rfl (zg rfl fo78_1 rfl ?_)
 refine zf (dj := 36) rfl rfl rfl (zi rfl sc76 rfl qC ?_)
 refine zf (dj := 36) rfl rfl rfl (yH (i := 0) rfl xk sz90 rfl rfl qM jR qG (fun b39 o39 => ?_))
 refine zf (dj := 36) rfl rfl rfl (zg rfl fo90_0 rfl ?_)
 refine zf (dj := 36) rfl rfl rfl (zi rfl sc3 rfl (Cells.ofDs qM (at_w0 (3, wy, 294))) ?_)
 refine zf (dj := 36) rfl rfl rfl (yn rfl rfl rfl (y6 rfl rfl rfl (z5 rfl rfl (zv (t := 44) rfl (show _ = Value.bool true from congrArg Value.bool (decide_eq_true rfl)) ?_))))
 refine zf (dj := 44) rfl rfl rfl (zp rfl ag78 rfl qN ?_)
 refine zf (dj := 44) rfl rfl rfl (zW rfl (ev1 rfl) qD qS (fbytes_spec (ws := [(3, wy, 294)]) jD (fun w hw => by rw [List.mem_singleton.1 hw]; exact ⟨by show (0 : Int) ≤ 294; decide, by show (294 : Int) ≤ 1000000; decide⟩)) jF ?_)
 refine zf (dj := 44) rfl rfl rfl (yn rfl rfl rfl (y6 rfl rfl rfl (z5 rfl rfl (zv (t := 49) rfl (show _ = Value.bool true from congrArg Value.bool (decide_eq_true rfl)) ?_))))
 refine zf (dj := 49) rfl rfl rfl (z5 rfl rfl (zf (dj := 49) rfl rfl rfl (yn rfl rfl rfl (y6 rfl rfl rfl (z5 rfl rfl (zv (t := 53) rfl (show _ = Value.bool true from congrArg Value.bool (decide_eq_true rfl)) ?_))))))
 refine zf (dj := 53) rfl rfl rfl (zg rfl fo78_2 rfl ?_)
 refine zf (dj := 53) rfl rfl rfl (zi rfl sc30 rfl qC ?_)
 refine zf (dj := 53) rfl rfl rfl (y1 rfl zG rfl (zf (dj := 53) rfl rfl rfl (yn rfl rfl rfl (y6 rfl rfl rfl (z5 rfl rfl (zv (t := 59) rfl (show _ = Value.bool true from congrArg Value.bool (decide_eq_true rfl)) ?_))))))
 refine zf (dj := 59) rfl rfl rfl (zg rfl fo78_1 rfl ?_)
 refine zf (dj := 59) rfl rfl rfl (zi rfl sc76 rfl qC ?_)
 exact zf (dj := 59) rfl rfl rfl (y1 rfl xk rfl (zf (dj := 59) rfl rfl rfl (yn rfl rfl rfl (y6 rfl rfl rfl (z9 rfl rfl (z7 (z4 (zj (zA rfl rfl ⟨congrArg Value.bool (decide_eq_true rfl), rfl, rfl⟩ qD qF)))))))))
end Cv
