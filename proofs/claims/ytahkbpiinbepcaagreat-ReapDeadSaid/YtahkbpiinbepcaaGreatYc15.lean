/-
  The walks: awake.
-/
import Derived.Test.YtahkbpiinbepcaaGreatXc15
import Derived.Test.YtahkbpiinbepcaaGreatEE15
import Derived.Test.YtahkbpiinbepcaaGreatCC15
import Derived.Test.YtahkbpiinbepcaaGreatCvLg
import Derived.Test.YtahkbpiinbepcaaGreatProg
import Derived.KernelRfl
set_option linter.unusedVariables false
set_option linter.unusedSimpArgs false
set_option linter.unusedSectionVars false
set_option maxHeartbeats 400000
set_option maxRecDepth 10000
namespace Cv
open Go Go.Proofs
/-! ## the objects of a path that are found -/
theorem go_is {os : List Ob} (hu : Uni os) {n : Nat} (h : n < 8) {o q : Ob} (ho : o ∈ (md n).2.2) (g : goF os o.2.1 = some q) : q = o := by
  obtain ⟨h1, h2⟩ := goF_mem g
  obtain ⟨m, hm, k2⟩ := hu q h1
  exact con hm h k2 ho h2
theorem bel_in {os : List Ob} (hu : Uni os) {n : Nat} (h : n < 8) {q : Pt} {k : Int} (b : Bel os (md n).1 (-1) q k) : (q = (md n).1 ∧ k = -1) ∨ (∃ c ∈ mdCh n, q = lf c ∧ k = 0) ∨ (∃ g ∈ grps (mdP n), q = upt 1 g ∧ k = 1) := by
  have n1 : ∀ {g : List Pt} {o : Ob}, g ∈ grps (mdP n) → goF os (upt 1 g).1 = some o → nodR o.2.2 = (1, g, 0) := fun {g o} hg e => by
    rw [upt_id, ← uob_id] at e
    rw [go_is hu h (in_n1 h hg) e, uob_tx]; exact nd1 h hg
  have leaf : ∀ {g : List Pt} {r : Pt}, g ∈ grps (mdP n) → r ∈ g → ∃ c ∈ mdCh n, r = lf c := fun {g r} hg hr => by
    obtain ⟨c, hc, e⟩ := List.mem_map.1 ((grps_len hg).2.2 r hr)
    exact ⟨c, hc, e.symm⟩
  induction b with
  | base => exact .inl ⟨rfl, rfl⟩
  | step b g h0 h2 he m ih =>
    rcases ih with ⟨e, e2⟩ | ⟨c, hc, e, e2⟩ | ⟨u, hu2, e, e2⟩
    · rw [e] at g
      rcases root_is h with ⟨c, er, eg⟩ | ⟨c, er, eg⟩
      · rw [er] at g
        have hg : mdP n ∈ grps (mdP n) := by rw [eg]; exact List.mem_singleton.2 rfl
        rw [n1 hg g] at m ⊢
        obtain ⟨d, hd, e3⟩ := leaf hg m
        exact .inr (.inl ⟨d, hd, e3, rfl⟩)
      · rw [er, upt_id, ← uob_id] at g
        have hg : upP 1 (mdP n) ∈ grps (upP 1 (mdP n)) := by rw [eg]; exact List.mem_singleton.2 rfl
        have ez := nd2 h hg
        rw [go_is hu h (in_n2 h c hg) g, uob_tx, ez] at m ⊢
        obtain ⟨u, hu2, e3⟩ := List.mem_map.1 m
        exact .inr (.inr ⟨u, hu2, e3.symm, rfl⟩)
    · exact absurd e2 h0
    · rw [e] at g
      rw [n1 hu2 g] at m ⊢
      obtain ⟨d, hd, e3⟩ := leaf hu2 m
      exact .inr (.inl ⟨d, hd, e3, rfl⟩)
theorem root_ob {n : Nat} (h : n < 8) : ∃ o ∈ (md n).2.2, o.2.1 = (md n).1.1 := by
  rcases root_is h with ⟨c, er, eg⟩ | ⟨c, er, eg⟩
  · exact ⟨_, in_n1 h (g := mdP n) (by rw [eg]; exact List.mem_singleton.2 rfl), by rw [er, uob_id, upt_id]⟩
  · exact ⟨_, in_n2 h c (g := upP 1 (mdP n)) (by rw [eg]; exact List.mem_singleton.2 rfl), by rw [er, uob_id, upt_id]⟩
theorem obj_sound {os : List Ob} (hu : Uni os) {n : Nat} (h : n < 8) {z : ID32} (m : ObM os [nm n] z) : ∃ o ∈ (md n).2.2, o.2.1 = z := by
  obtain ⟨x, hx, k, e⟩ := m
  obtain rfl : x = nm n := List.mem_singleton.1 hx
  have hp : pth n ∈ os := Classical.byContradiction fun q => by rw [lk_no hu h q] at k; cases k
  rw [lk_yes hu h hp] at e
  rcases e with e | ⟨q, j, b, e, g⟩
  · exact ⟨_, (pth_in h).1, by rw [pth_id, e]⟩
  · rcases bel_in hu h b with ⟨e1, -⟩ | ⟨c, hc, e1, -⟩ | ⟨u, hu2, e1, -⟩
    · rw [← e, e1]; exact root_ob h
    · exact ⟨_, in_lo h hc, by rw [← e, e1, lo_id, lf_id]⟩
    · exact ⟨_, in_n1 h hu2, by rw [← e, e1, uob_id, upt_id]⟩
theorem obj_full {os : List Ob} (hu : Uni os) {n : Nat} (h : n < 8) (al : ∀ o ∈ (md n).2.2, o ∈ os) {o : Ob} (ho : o ∈ (md n).2.2) : ObM os [nm n] o.2.1 := by
  have hp := al _ (pth_in h).1
  refine ⟨nm n, List.mem_singleton.2 rfl, by rw [lk_yes hu h hp], ?_⟩
  rw [lk_yes hu h hp]
  have here : ∀ {q : Ob}, q ∈ (md n).2.2 → goF os q.2.1 ≠ none := fun {q} hq => by rw [uni_go hu (al q hq)]; exact fun k => by cases k
  have s1 : ∀ {g : List Pt} {lv : Int}, g ∈ grps (mdP n) → lv ≠ 0 → Bel os (md n).1 (-1) (upt 1 g) lv → ∀ r ∈ g, Bel os (md n).1 (-1) r 0 := fun {g lv} hg h0 b r hr => by
    have e : goF os (upt 1 g).1 = some (uob 1 g) := by rw [upt_id, ← uob_id]; exact uni_go hu (al _ (in_n1 h hg))
    have ez : nodR (uob 1 g).2.2 = (1, g, 0) := by rw [uob_tx]; exact nd1 h hg
    have := Bel.step (r := r) b e h0 (uob_k 1 g) (by rw [ez]) (by rw [ez]; exact hr)
    rw [ez] at this; exact this
  have s2 : ∀ g ∈ grps (mdP n), ∃ lv, lv ≠ 0 ∧ Bel os (md n).1 (-1) (upt 1 g) lv := fun g hg => by
    rcases root_is h with ⟨c, er, eg⟩ | ⟨c, er, eg⟩
    · rw [eg] at hg
      rw [List.mem_singleton.1 hg, ← er]
      exact ⟨-1, by decide, .base⟩
    · have h2 : upP 1 (mdP n) ∈ grps (upP 1 (mdP n)) := by rw [eg]; exact List.mem_singleton.2 rfl
      have e : goF os (md n).1.1 = some (uob 2 (upP 1 (mdP n))) := by rw [er, upt_id, ← uob_id]; exact uni_go hu (al _ (in_n2 h c h2))
      have ez : nodR (uob 2 (upP 1 (mdP n))).2.2 = (2, upP 1 (mdP n), 0) := by rw [uob_tx]; exact nd2 h h2
      have := Bel.step (r := upt 1 g) (Bel.base (os := os) (p := (md n).1) (lv := -1)) e (by decide) (uob_k 2 _) (by rw [ez]) (by rw [ez]; exact List.mem_map.2 ⟨g, hg, rfl⟩)
      rw [ez] at this
      exact ⟨1, by decide, this⟩
  rcases (md_mem h o).1 ho with q | ⟨c, hc, q⟩ | ⟨g, hg, q⟩ | ⟨k, g, hg, q⟩
  · exact .inl (by rw [q, pth_id])
  · obtain ⟨g, hg, hm⟩ := grps_has (List.mem_map.2 ⟨c, hc, rfl⟩ : lf c ∈ mdP n)
    obtain ⟨lv, h0, b⟩ := s2 g hg
    exact .inr ⟨lf c, 0, s1 hg h0 b _ hm, by rw [q, lo_id, lf_id], here ho⟩
  · obtain ⟨lv, h0, b⟩ := s2 g hg
    exact .inr ⟨_, lv, b, by rw [q, uob_id, upt_id], here ho⟩
  · rcases root_is h with ⟨c, -⟩ | ⟨c, er, eg⟩
    · exact absurd c k
    · refine .inr ⟨(md n).1, -1, .base, ?_, here ho⟩
      rw [eg] at hg
      rw [q, List.mem_singleton.1 hg, er, uob_id, upt_id]
/-! ## awake -/
theorem uni_app {a b : List Ob} (h : Uni a) (k : Uni b) : Uni (a ++ b) := fun o ho => (List.mem_append.1 ho).elim (h o) (k o)
theorem uni_md {n : Nat} (h : n < 8) : Uni (md n).2.2 := fun o ho => ⟨n, h, ho⟩
def awO : List Ob := (md 1).2.2 ++ (md 0).2.2
theorem aw_uni : Uni awO := uni_app (uni_md (by decide)) (uni_md (by decide))
theorem refs_0 : (md 0).2.1 = [] := by rw [md_refs (by decide)]; rfl
theorem refs_1 : (md 1).2.1 = [nm 0] := by
  rw [md_refs (by decide), show pkF 1 2 = [0] from by decide +kernel]
  show sortF [nm 0] = _
  have := sortF_names [nm 0]
  exact asc_uniq this.asc (List.pairwise_singleton _ _) fun z => this.mem z
theorem nm_ne {n m : Nat} (hn : n < 8) (hm : m < 8) (h : (md n).2.1 ≠ (md m).2.1) : nm n ≠ nm m := fun e => by
  have c := con hn hm (pth_in hn).1 (pth_in hm).1 (by rw [pth_id, pth_id, e])
  have a := pth_par hn
  rw [c, pth_par hm] at a
  exact h (congrArg (fun x : Pt × List ID32 × Int => x.2.1) a).symm
theorem nm_01 : nm 0 ≠ nm 1 := nm_ne (by decide) (by decide) (by rw [refs_0, refs_1]; exact fun k => by cases k)
theorem aw_p1 : pth 1 ∈ awO := List.mem_append_left _ (pth_in (by decide)).1
theorem aw_p0 : pth 0 ∈ awO := List.mem_append_right _ (pth_in (by decide)).1
theorem rch_two {os : List Ob} {w1 w0 : ID32} {p1 p0 : Pt} (h1 : lkR os w1 = (p1, [w0], true)) (h0 : lkR os w0 = (p0, [], true)) {z : ID32} : Rch os [w1] z ↔ z ∈ [w1, w0] := by
  constructor
  · intro r
    induction r with
    | base h => exact List.mem_cons.2 (.inl (List.mem_singleton.1 h))
    | step _ k m ih =>
      rcases List.mem_cons.1 ih with e | e
      · rw [e, h1] at m
        exact List.mem_cons_of_mem _ m
      · rw [List.mem_singleton.1 e, h0] at m
        cases m
  · intro h
    rcases List.mem_cons.1 h with e | e
    · exact .base (by rw [e]; exact List.mem_singleton.2 rfl)
    · rw [List.mem_singleton.1 e]
      exact .step (.base (List.mem_singleton.2 rfl)) (by rw [h1]) (by rw [h1]; exact List.mem_singleton.2 rfl)
theorem reach_2 {os : List Ob} {us : List ID32} {w1 w0 : ID32} {p1 p0 : Pt} (h1 : lkR os w1 = (p1, [w0], true)) (h0 : lkR os w0 = (p0, [], true)) (ne : w1 ≠ w0) (h : RchF os [w1] us) : us.length = 2 := by
  have a := nd_len (asc_nd h.asc) (m := [w1, w0]) fun z hz => (rch_two h1 h0).1 ((h.mem z).1 hz)
  have b := nd_len (l := [w1, w0]) (m := us) (by simp [ne]) fun z hz => (h.mem z).2 ((rch_two h1 h0).2 hz)
  simp only [List.length_cons, List.length_nil] at a b; omega
theorem aw_l1 : lkR awO (nm 1) = ((md 1).1, [nm 0], true) := by rw [lk_yes aw_uni (by decide) aw_p1, refs_1]
theorem aw_l0 : lkR awO (nm 0) = ((md 0).1, [], true) := by rw [lk_yes aw_uni (by decide) aw_p0, refs_0]
theorem aw_reach {us : List ID32} (h : RchF awO [nm 1] us) : us.length = 2 := reach_2 aw_l1 aw_l0 nm_01.symm h
theorem aw_whole : whE awO (nm 0) = 0 := by
  rcases whole_iff (n := 0) aw_uni (by decide) with ⟨h, -⟩ | ⟨-, h⟩
  · exact h
  · exact absurd (fun o ho => List.mem_append_right _ ho) h
theorem nd_0 : ((md 0).2.2.map (·.2.1)).Nodup := by
  have e : (md 0).2.2.map (·.2.1) = (dt0.map (·.2.1)).map idL := by rw [dt0_eq, List.map_map, List.map_map]; rfl
  rw [e]
  refine List.pairwise_map.2 ?_
  have h1 : (dt0.map (·.2.1)).Pairwise (fun a b => a < 2 ^ 256 ∧ b < 2 ^ 256 ∧ a ≠ b) := by decide +kernel
  exact h1.imp fun ⟨a, b, c⟩ q => c (idL_inj a b q)
theorem aw_objs {us : List ID32} (h : ObF awO [nm 0] us) : us.length = (md 0).2.2.length := by
  have a := nd_len (asc_nd h.asc) (m := (md 0).2.2.map (·.2.1)) fun z hz => by
    obtain ⟨o, ho, e⟩ := obj_sound aw_uni (by decide) ((h.mem z).1 hz)
    exact List.mem_map.2 ⟨o, ho, e⟩
  have b := nd_len (l := (md 0).2.2.map (·.2.1)) (m := us) nd_0 fun z hz => by
    obtain ⟨o, ho, e⟩ := List.mem_map.1 hz
    rw [← e]; exact (h.mem _).2 (obj_full aw_uni (by decide) (fun o ho => List.mem_append_right _ ho) ho)
  rw [List.length_map] at a b; omega
theorem aw_shf : Shf awO := fun o ho => (List.mem_append.1 ho).elim (md_shf (by decide) o) (md_shf (by decide) o)
theorem md_3 {n : Nat} (h : n < 8) : 3 ≤ (md n).2.2.length := by
  obtain ⟨h1, h2, h3, h4⟩ := mdCh_ok h
  rw [(pth_in h).2]
  have hl : (mdP n).length = (mdCh n).length := List.length_map ..
  have hg : gN (mdP n).length = ((mdP n).length + 7) / 8 := rfl
  have hu := @upO_len 1 (mdP n)
  have : 1 ≤ (ndO (mdP n)).length := by unfold ndO; rw [List.length_append]; omega
  rw [List.length_cons, List.length_append, List.length_map]; omega

theorem awake15_spec   : Spec Tryz.prog 13 [] [] [] (fun v D' M' => v = .bool true ∧ D' = [] ∧ M' = []) := by
 refine zC (n := 57) Tryz.func13 ?_
 intro σ D M
 have hash := aw_shf
 obtain ⟨os, hos⟩ : ∃ z, z = awO := ⟨_, rfl⟩
 rw [← hos] at hash
 refine z6 (z8 (z9 rfl rfl (z7 (z4 (z6 (z8 (zx rfl (ev1 rfl) qD qS (made_spec (z := 1) jD) ?_)))))))
 rintro _ _ _ ⟨xa, xb, xl, xc, xo, xd, rfl, hxl, hxo, rfl, rfl⟩
 refine zt qA qA ?_
 rw [show ((1 : Int) % 8).toNat = 1 from rfl] at hxl hxo ⊢
 have hx8 := md_len 1
 have hxs := md_sz 1
 have hx3 := md_3 (n := 1) jD
 have hx7 := md_olen (n := 1) jD
 obtain ⟨Zx, hZx⟩ : ∃ z, z = md 1 := ⟨_, rfl⟩
 rw [← hZx] at hxl hxo hx8 hxs hx3 hx7 ⊢
 have hinx := inC_len Zx.1 xa xl xc
 have hpx := Zx.1.1.2
 refine z5 rfl rfl (zG rfl rfl rfl (zG rfl rfl rfl (zL rfl ze54 (fun b1 => ?_))))
 refine zE y9 rfl rfl qL qO qU qW ?_
 refine z9 rfl rfl (z7 (y1 (A := cl b1 54 (inC Zx.1 xa xl xc)) qP ?_))
 refine z4 (z6 (z8 (zx rfl (ev1 rfl) qD qS (made_spec (z := 0) jD) ?_)))
 rintro _ _ _ ⟨ya, yb, yl, yc, yo, yd, rfl, hyl, hyo, rfl, rfl⟩
 refine zt qA qA ?_
 rw [show ((0 : Int) % 8).toNat = 0 from rfl] at hyl hyo ⊢
 have hy8 := md_len 0
 have hys := md_sz 0
 have hy3 := md_3 (n := 0) jD
 have hy7 := md_olen (n := 0) jD
 obtain ⟨Zy, hZy⟩ : ∃ z, z = md 0 := ⟨_, rfl⟩
 rw [← hZy] at hyl hyo hy8 hys hy3 hy7 ⊢
 have hiny := inC_len Zy.1 ya yl yc
 have hpy := Zy.1.1.2
 refine z5 rfl rfl (zG rfl rfl rfl (zG rfl rfl rfl (zL rfl ze54 (fun b3 => ?_))))
 refine zE y9 rfl rfl qL qO qU qW ?_
 refine z9 rfl rfl (z7 (y1 (A := cl b3 54 (inC Zy.1 ya yl yc)) qP ?_))
 refine z4 (z6 (z6 ?_))
 have hx1 : xl = 1 := by rw [← hxl, hZx, refs_1]; rfl
 refine z8 (z5 rfl rfl (y2 rfl x9 rfl (zQ rfl rfl rfl (z5 rfl rfl (zv (t := 17) rfl (show _ = Value.bool false from congrArg Value.bool (decide_eq_false jO)) ?_)))))
 refine zf (dj := 17) rfl rfl rfl (zj rfl fo54_1 rfl ?_)
 refine zf (dj := 17) rfl rfl rfl (zh rfl sc30 rfl qC ?_)
 refine zf (dj := 17) rfl rfl rfl (y2 rfl zA rfl (zf (dj := 17) rfl rfl rfl (yx rfl rfl rfl (y5 rfl rfl rfl (z7 (z4 (ym rfl (decide_eq_false jO) ?_)))))))
 refine zm (z4 (z6 (z8 (yh rfl bs24 jD (zO (out := []) rfl) (fun b23 => ?_)))))
 refine yU (len := 0) qP (rows := ([] : List Ob).map obC) (sz := 34) (by rfl) rfl (by simp) ?_
 refine z5 rfl rfl (xy rfl x9 x9 el45 rfl rfl qP (rd_D qM) one_obs qI qI (fun a25 c25 => ?_))
 refine z5 rfl rfl (xy rfl x9 x9 el45 rfl rfl qP (rd_D qM) one_obs qI qI (fun a27 c27 => ?_))
 refine yw rfl bu26 (zB rfl rfl rfl <| zO (out := []) rfl) ?_
 refine zL rfl ze26 (fun b5 => ?_)
 refine zE ag26 rfl rfl qL qO qU qW ?_
 refine z7 (zZ qP (show own 34 45 a27 (0 + xo + yo) c27 (([] : List Ob).map obC ++ Zx.2.2.map obC ++ Zy.2.2.map obC) = own 34 45 a27 (0 + xo + yo) c27 (os.map obC) from by rw [hos, hZx, hZy]; unfold awO; rw [List.map_append]; rfl) ?_)
 refine yD (rows := os.map obC) qP ?_
 refine y1 (A := cl b5 26 [.slice a27 (0 + xo + yo) c27]) qP ?_
 refine z4 (z6 (yt (clsL [1, 1, 1, 2, 2, 2, 1, 1, 1, 1, 1, 1, 2, 2, 1, 1, 1, 1, 1, 1, 2, 2, 2, 1, 1, 1, 1, 1, 1]) qk ?_))
 refine ze 0 rfl rfl (zp rfl ag26 rfl qN ?_)
 refine zd (ze 1 rfl rfl (L.mkIface rfl xG (by intro i q; cases q) rfl ?_))
 refine zd (ze 2 rfl rfl (zp rfl y9 rfl qN ?_))
 refine zd (zy 3 rfl (zW rfl (ev1 rfl) qD qS (iname_spec (l := Zx.2.1) (p := Zx.1) jO jO) jF ?_))
 rw [show inN Zx.1 Zx.2.1 = nm 1 from by rw [hZx, nm_eq]]
 obtain ⟨wx, hwx⟩ : ∃ z, z = nm 1 := ⟨_, rfl⟩
 rw [← hwx]
 have hwx2 := wx.2
 have hwx3 := zT wx
 refine zw rfl qD ?_
 refine zy 4 rfl (yh rfl bs30 jD (yQ rfl rfl (by first | with_reducible assumption | (simp; done) | (simp only [List.length_map]; with_reducible assumption) | (simp [*]; done) | rfl) (Nat.le_of_ble_eq_true rfl) qR <| zO (out := []) rfl) (fun b33 => ?_))
 refine yU (len := 1) qP (rows := [wx].map iC) (sz := 32) (by simp) rfl (by simp [hwx2]) ?_
 refine yZ (rows := [wx].map iC) qP ?_
 refine zw rfl qD ?_
 refine zy 5 rfl (zx rfl (ev2 rfl rfl) qD qS (reach_spec (os := os) (l := [wx]) jO hash jO) ?_)
 rintro _ _ _ ⟨ra, rn, rc, us, rfl, hrf, hrn, hrb, rfl, rfl⟩
 refine zt qA qA ?_
 refine zw rfl qD ?_
 refine ze 6 rfl rfl (y2 rfl zA rfl (zd (ze 7 rfl rfl (yj rfl rfl rfl (zd (ze 8 rfl rfl (z5 rfl rfl (zd (A.known (t := 37) rfl (show _ = Value.bool true from congrArg Value.bool (decide_eq_true (by have := aw_reach (hos ▸ hwx ▸ hrf); omega))) ?_)))))))))
 refine ze 9 rfl rfl (zf (dj := 37) rfl rfl rfl (zp rfl ag26 rfl qN ?_))
 refine zd (ze 10 rfl rfl (zf (dj := 37) rfl rfl rfl (L.mkIface rfl xG (by intro i q; cases q) rfl ?_)))
 refine zd (ze 11 rfl rfl (zf (dj := 37) rfl rfl rfl (zp rfl y9 rfl qN ?_)))
 refine zd (zy 12 rfl (zf (dj := 37) rfl rfl rfl (zW rfl (ev1 rfl) qD qS (iname_spec (l := Zy.2.1) (p := Zy.1) jO jO) jF ?_)))
 rw [show inN Zy.1 Zy.2.1 = nm 0 from by rw [hZy, nm_eq]]
 obtain ⟨wy, hwy⟩ : ∃ z, z = nm 0 := ⟨_, rfl⟩
 rw [← hwy]
 have hwy2 := wy.2
 have hwy3 := zT wy
 refine zw rfl qD ?_
 refine zy 13 rfl (zf (dj := 37) rfl rfl rfl (zW rfl (ev2 rfl rfl) qD qS (whl_spec (os := os) (x := wy) jO hash) jF ?_))
 refine zw rfl qD ?_
 refine ze 14 rfl rfl (zf (dj := 37) rfl rfl rfl (yj rfl rfl rfl (zd (ze 15 rfl rfl (ye rfl rfl rfl (zd (ze 16 rfl rfl (z5 rfl rfl (zd (A.known (t := 45) rfl (show _ = Value.bool true from congrArg Value.bool (decide_eq_true (by rw [hos, hwy]; exact aw_whole))) ?_))))))))))
 refine ze 17 rfl rfl (zf (dj := 45) rfl rfl rfl (zp rfl ag26 rfl qN ?_))
 refine zd (ze 18 rfl rfl (zf (dj := 45) rfl rfl rfl (L.mkIface rfl xG (by intro i q; cases q) rfl ?_)))
 refine zd (ze 19 rfl rfl (zf (dj := 45) rfl rfl rfl (zp rfl y9 rfl qN ?_)))
 refine zd (ze 24 rfl rfl (zf (dj := 45) rfl rfl rfl (z5 rfl rfl (zd (ze 25 rfl rfl (zf (dj := 45) rfl rfl rfl (y2 rfl x9 rfl (zd (zy 20 rfl (zf (dj := 45) rfl rfl rfl (zW rfl (ev1 rfl) qD qS (iname_spec (l := Zy.2.1) (p := Zy.1) jO jO) jF ?_)))))))))))
 rw [show inN Zy.1 Zy.2.1 = nm 0 from by rw [hZy, nm_eq]]
 rw [← hwy]
 refine zw rfl qD ?_
 refine zy 21 rfl (zf (dj := 45) rfl rfl rfl (yh rfl bs30 jD (yQ rfl rfl (by first | with_reducible assumption | (simp; done) | (simp only [List.length_map]; with_reducible assumption) | (simp [*]; done) | rfl) (Nat.le_of_ble_eq_true rfl) qR <| zO (out := []) rfl) (fun b50 => ?_)))
 refine yU (len := 1) qP (rows := [wy].map iC) (sz := 32) (by simp) rfl (by simp [hwy2]) ?_
 refine yZ (rows := [wy].map iC) qP ?_
 refine zw rfl qD ?_
 refine zy 22 rfl (zf (dj := 45) rfl rfl rfl (zx rfl (ev2 rfl rfl) qD qS (objs_spec (os := os) (l := [wy]) jO hash jO) ?_))
 rintro _ _ _ ⟨qa, qn, qc, vs, rfl, hof, hqn, rfl, rfl⟩
 refine zt qA qA ?_
 refine zw rfl qD ?_
 refine ze 23 rfl rfl (zf (dj := 45) rfl rfl rfl (y2 rfl zA rfl (zd (ze 26 rfl rfl (zf (dj := 45) rfl rfl rfl (yj rfl rfl rfl (zd (ze 27 rfl rfl (ye rfl rfl rfl (zd (ze 28 rfl rfl (z9 rfl rfl (zd (y6 qk ?_))))))))))))))
 exact z4 (zi (zz rfl rfl ⟨congrArg Value.bool (decide_eq_true (by have := aw_objs (hos ▸ hwy ▸ hof); rw [← hZy] at this; omega)), rfl, rfl⟩ qD qF))
end Cv
