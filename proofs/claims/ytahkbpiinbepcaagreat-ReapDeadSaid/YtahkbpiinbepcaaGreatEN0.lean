/-
  What is evaluated: the gear table, the chunks, the names of the objects of the eight paths.
-/
import Derived.Test.YtahkbpiinbepcaaGreatEM0
import Derived.Test.YtahkbpiinbepcaaGreatEM1
import Derived.Test.YtahkbpiinbepcaaGreatEVm7
set_option linter.unusedVariables false
set_option linter.unusedSimpArgs false
set_option linter.unusedSectionVars false
set_option maxRecDepth 100000
namespace Cv
open Go
def rf0 : List ID32 := []
theorem rf0_eq : sortF ((pkF 0 2).map nm) = rf0 := by
  rw [show pkF 0 2 = [] from by decide +kernel]
  show sortF [] = _
  decide +kernel
theorem nm0_eq : nm 0 = idL 73687214168020646103007410663655086793364698633129534707685264454675707015547 := nm_is (by decide) rt0_eq rf0_eq (by decide +kernel)
def dt0 : List (Int × Nat × List UInt8) := (3, 73687214168020646103007410663655086793364698633129534707685264454675707015547, inT rt0 rf0) :: (zipO 1 ck0 (splitL (mdW 0) ln0) ++ (zipO 2 nk0 ((grps ps0).map (nodeT 1))))
theorem dt0_eq : (md 0).2.2 = dt0.map obD := by
  rw [md_is (by decide), rt0_eq, rf0_eq, nm0_eq]
  unfold dt0
  refine cons_eq rfl (app_eq ?_ ?_)
  · rw [ch0]; exact zip_lo ck0_eq
  · rw [ps0_eq]; unfold ndO
    rw [if_pos (by decide), List.append_nil]
    exact zip_up nk0_eq
def rf1 : List ID32 := [idL 73687214168020646103007410663655086793364698633129534707685264454675707015547]
theorem rf1_eq : sortF ((pkF 1 2).map nm) = rf1 := by
  rw [show pkF 1 2 = [0] from by decide +kernel]
  show sortF [nm 0] = _
  rw [nm0_eq]
  decide +kernel
theorem nm1_eq : nm 1 = idL 2861375076028096863739439978876395466837022462201529461600920641953053504740 := nm_is (by decide) rt1_eq rf1_eq (by decide +kernel)
def dt1 : List (Int × Nat × List UInt8) := (3, 2861375076028096863739439978876395466837022462201529461600920641953053504740, inT rt1 rf1) :: (zipO 1 ck1 (splitL (mdW 1) ln1) ++ (zipO 2 nk1 ((grps ps1).map (nodeT 1))))
theorem dt1_eq : (md 1).2.2 = dt1.map obD := by
  rw [md_is (by decide), rt1_eq, rf1_eq, nm1_eq]
  unfold dt1
  refine cons_eq rfl (app_eq ?_ ?_)
  · rw [ch1]; exact zip_lo ck1_eq
  · rw [ps1_eq]; unfold ndO
    rw [if_pos (by decide), List.append_nil]
    exact zip_up nk1_eq
def rf2 : List ID32 := []
theorem rf2_eq : sortF ((pkF 2 2).map nm) = rf2 := by
  rw [show pkF 2 2 = [] from by decide +kernel]
  show sortF [] = _
  decide +kernel
theorem nm2_eq : nm 2 = idL 55251962901447145605886876391232010556583144833667786123452484677858597205159 := nm_is (by decide) rt2_eq rf2_eq (by decide +kernel)
def dt2 : List (Int × Nat × List UInt8) := (3, 55251962901447145605886876391232010556583144833667786123452484677858597205159, inT rt2 rf2) :: (zipO 1 ck2 (splitL (mdW 2) ln2) ++ (zipO 2 nk2 ((grps ps2).map (nodeT 1))))
theorem dt2_eq : (md 2).2.2 = dt2.map obD := by
  rw [md_is (by decide), rt2_eq, rf2_eq, nm2_eq]
  unfold dt2
  refine cons_eq rfl (app_eq ?_ ?_)
  · rw [ch2]; exact zip_lo ck2_eq
  · rw [ps2_eq]; unfold ndO
    rw [if_pos (by decide), List.append_nil]
    exact zip_up nk2_eq
def rf3 : List ID32 := [idL 55251962901447145605886876391232010556583144833667786123452484677858597205159]
theorem rf3_eq : sortF ((pkF 3 2).map nm) = rf3 := by
  rw [show pkF 3 2 = [2] from by decide +kernel]
  show sortF [nm 2] = _
  rw [nm2_eq]
  decide +kernel
theorem nm3_eq : nm 3 = idL 100726533096095555714192033525159092005564293019195579238281659281155118219894 := nm_is (by decide) rt3_eq rf3_eq (by decide +kernel)
def dt3 : List (Int × Nat × List UInt8) := (3, 100726533096095555714192033525159092005564293019195579238281659281155118219894, inT rt3 rf3) :: (zipO 1 ck3 (splitL (mdW 3) ln3) ++ (zipO 2 nk3 ((grps ps3).map (nodeT 1))))
theorem dt3_eq : (md 3).2.2 = dt3.map obD := by
  rw [md_is (by decide), rt3_eq, rf3_eq, nm3_eq]
  unfold dt3
  refine cons_eq rfl (app_eq ?_ ?_)
  · rw [ch3]; exact zip_lo ck3_eq
  · rw [ps3_eq]; unfold ndO
    rw [if_pos (by decide), List.append_nil]
    exact zip_up nk3_eq
def rf4 : List ID32 := [idL 2861375076028096863739439978876395466837022462201529461600920641953053504740, idL 100726533096095555714192033525159092005564293019195579238281659281155118219894]
theorem rf4_eq : sortF ((pkF 4 2).map nm) = rf4 := by
  rw [show pkF 4 2 = [3, 1] from by decide +kernel]
  show sortF [nm 3, nm 1] = _
  rw [nm3_eq, nm1_eq]
  decide +kernel
theorem nm4_eq : nm 4 = idL 68298141130083624069949052371755409311291443235203974098280539994239659445074 := nm_is (by decide) rt4_eq rf4_eq (by decide +kernel)
def dt4 : List (Int × Nat × List UInt8) := (3, 68298141130083624069949052371755409311291443235203974098280539994239659445074, inT rt4 rf4) :: (zipO 1 ck4 (splitL (mdW 4) ln4) ++ (zipO 2 nk4 ((grps ps4).map (nodeT 1))))
theorem dt4_eq : (md 4).2.2 = dt4.map obD := by
  rw [md_is (by decide), rt4_eq, rf4_eq, nm4_eq]
  unfold dt4
  refine cons_eq rfl (app_eq ?_ ?_)
  · rw [ch4]; exact zip_lo ck4_eq
  · rw [ps4_eq]; unfold ndO
    rw [if_pos (by decide), List.append_nil]
    exact zip_up nk4_eq
def rf5 : List ID32 := [idL 55251962901447145605886876391232010556583144833667786123452484677858597205159]
theorem rf5_eq : sortF ((pkF 5 2).map nm) = rf5 := by
  rw [show pkF 5 2 = [2] from by decide +kernel]
  show sortF [nm 2] = _
  rw [nm2_eq]
  decide +kernel
theorem nm5_eq : nm 5 = idL 100552181690528938292234224093153743735486965900484815069493715556583286714242 := nm_is (by decide) rt5_eq rf5_eq (by decide +kernel)
def dt5 : List (Int × Nat × List UInt8) := (3, 100552181690528938292234224093153743735486965900484815069493715556583286714242, inT rt5 rf5) :: (zipO 1 ck5 (splitL (mdW 5) ln5) ++ (zipO 2 nk5 ((grps ps5).map (nodeT 1)) ++ zipO 2 mk5 ((grps up5).map (nodeT 2))))
theorem dt5_eq : (md 5).2.2 = dt5.map obD := by
  rw [md_is (by decide), rt5_eq, rf5_eq, nm5_eq]
  unfold dt5
  refine cons_eq rfl (app_eq ?_ ?_)
  · rw [ch5]; exact zip_lo ck5_eq
  · rw [ps5_eq]; unfold ndO
    rw [if_neg (by decide), up5_eq]
    exact app_eq (zip_up nk5_eq) (zip_up mk5_eq)
def rf6 : List ID32 := [idL 100552181690528938292234224093153743735486965900484815069493715556583286714242]
theorem rf6_eq : sortF ((pkF 6 2).map nm) = rf6 := by
  rw [show pkF 6 2 = [5] from by decide +kernel]
  show sortF [nm 5] = _
  rw [nm5_eq]
  decide +kernel
theorem nm6_eq : nm 6 = idL 8015281661179485096597656454520725336914102648158367278028574096413358299058 := nm_is (by decide) rt6_eq rf6_eq (by decide +kernel)
def dt6 : List (Int × Nat × List UInt8) := (3, 8015281661179485096597656454520725336914102648158367278028574096413358299058, inT rt6 rf6) :: (zipO 1 ck6 (splitL (mdW 6) ln6) ++ (zipO 2 nk6 ((grps ps6).map (nodeT 1)) ++ zipO 2 mk6 ((grps up6).map (nodeT 2))))
theorem dt6_eq : (md 6).2.2 = dt6.map obD := by
  rw [md_is (by decide), rt6_eq, rf6_eq, nm6_eq]
  unfold dt6
  refine cons_eq rfl (app_eq ?_ ?_)
  · rw [ch6]; exact zip_lo ck6_eq
  · rw [ps6_eq]; unfold ndO
    rw [if_neg (by decide), up6_eq]
    exact app_eq (zip_up nk6_eq) (zip_up mk6_eq)
def rf7 : List ID32 := [idL 8015281661179485096597656454520725336914102648158367278028574096413358299058, idL 68298141130083624069949052371755409311291443235203974098280539994239659445074]
theorem rf7_eq : sortF ((pkF 7 2).map nm) = rf7 := by
  rw [show pkF 7 2 = [6, 4] from by decide +kernel]
  show sortF [nm 6, nm 4] = _
  rw [nm6_eq, nm4_eq]
  decide +kernel
theorem nm7_eq : nm 7 = idL 92387356673465592861543572723996146257559081743401797554791443793087222180546 := nm_is (by decide) rt7_eq rf7_eq (by decide +kernel)
def dt7 : List (Int × Nat × List UInt8) := (3, 92387356673465592861543572723996146257559081743401797554791443793087222180546, inT rt7 rf7) :: (zipO 1 ck7 (splitL (mdW 7) ln7) ++ (zipO 2 nk7 ((grps ps7).map (nodeT 1)) ++ zipO 2 mk7 ((grps up7).map (nodeT 2))))
theorem dt7_eq : (md 7).2.2 = dt7.map obD := by
  rw [md_is (by decide), rt7_eq, rf7_eq, nm7_eq]
  unfold dt7
  refine cons_eq rfl (app_eq ?_ ?_)
  · rw [ch7]; exact zip_lo ck7_eq
  · rw [ps7_eq]; unfold ndO
    rw [if_neg (by decide), up7_eq]
    exact app_eq (zip_up nk7_eq) (zip_up mk7_eq)
end Cv
set_option maxRecDepth 100000
namespace Cv
open Go
def dtA : List (Int × Nat × List UInt8) := dt0 ++ dt1 ++ dt2 ++ dt3 ++ dt4 ++ dt5 ++ dt6 ++ dt7
theorem con_dt : conB dtA = true := by decide +kernel
theorem key_dt : dtA.all (fun d => decide (d.2.1 < 2 ^ 256 ∧ d.2.1 ≠ 9 * 256 ^ 31)) = true := by decide +kernel
theorem mem_dt {n : Nat} (h : n < 8) : ∃ l : List Dat, (∀ d ∈ l, d ∈ dtA) ∧ (md n).2.2 = l.map obD := by
  rcases (show n = 0 ∨ n = 1 ∨ n = 2 ∨ n = 3 ∨ n = 4 ∨ n = 5 ∨ n = 6 ∨ n = 7 by omega) with rfl | rfl | rfl | rfl | rfl | rfl | rfl | rfl
  · exact ⟨dt0, fun d hd => by unfold dtA; simp [hd], dt0_eq⟩
  · exact ⟨dt1, fun d hd => by unfold dtA; simp [hd], dt1_eq⟩
  · exact ⟨dt2, fun d hd => by unfold dtA; simp [hd], dt2_eq⟩
  · exact ⟨dt3, fun d hd => by unfold dtA; simp [hd], dt3_eq⟩
  · exact ⟨dt4, fun d hd => by unfold dtA; simp [hd], dt4_eq⟩
  · exact ⟨dt5, fun d hd => by unfold dtA; simp [hd], dt5_eq⟩
  · exact ⟨dt6, fun d hd => by unfold dtA; simp [hd], dt6_eq⟩
  · exact ⟨dt7, fun d hd => by unfold dtA; simp [hd], dt7_eq⟩
theorem con {n m : Nat} (hn : n < 8) (hm : m < 8) {o q : Ob} (ho : o ∈ (md n).2.2) (hq : q ∈ (md m).2.2) (e : o.2.1 = q.2.1) : o = q := by
  obtain ⟨l, h1, h2⟩ := mem_dt hn
  obtain ⟨k, h3, h4⟩ := mem_dt hm
  rw [h2] at ho
  rw [h4] at hq
  obtain ⟨c, hc, rfl⟩ := List.mem_map.1 ho
  obtain ⟨d, hd, rfl⟩ := List.mem_map.1 hq
  exact con_of con_dt key_dt (h1 c hc) (h3 d hd) e
end Cv
