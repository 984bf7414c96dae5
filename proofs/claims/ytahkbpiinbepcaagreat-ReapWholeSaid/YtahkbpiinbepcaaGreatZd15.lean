/-
  The walks: the law on whole paths.
-/
import Derived.Test.YtahkbpiinbepcaaGreatZc15
import Derived.Test.YtahkbpiinbepcaaGreatProg
import Derived.KernelRfl
set_option linter.unusedVariables false
set_option linter.unusedSimpArgs false
set_option linter.unusedSectionVars false
set_option maxHeartbeats 400000
set_option maxRecDepth 10000
namespace Cv
open Go Go.Proofs
/-! ## what is missing -/
def misF (os l : List Ob) (i : Nat) : Nat := ((l.take i).filter fun o => decide (goF os o.2.1 = none)).length
theorem misF_s {os l : List Ob} {i : Nat} {o : Ob} (h : l[i]? = some o) : misF os l (i + 1) = misF os l i + if goF os o.2.1 = none then 1 else 0 := by
  unfold misF
  rw [List.take_add_one, h]
  show ((l.take i ++ [o]).filter _).length = _
  rw [List.filter_append, List.length_append, List.filter_cons]
  by_cases c : goF os o.2.1 = none
  · rw [if_pos (decide_eq_true c), if_pos c]; rfl
  · rw [if_neg (by rw [decide_eq_false c]; decide), if_neg c]; rfl
theorem misF_le (os l : List Ob) (i : Nat) : misF os l i ≤ i := by
  have := List.length_filter_le (fun o : Ob => decide (goF os o.2.1 = none)) (l.take i)
  rw [List.length_take] at this
  unfold misF; omega
theorem mis_0 {os : List Ob} (hu : Uni os) {n : Nat} (h : n < 8) : misF os (md n).2.2 (md n).2.2.length = 0 ↔ ∀ o ∈ (md n).2.2, o ∈ os := by
  unfold misF
  rw [List.take_length, List.length_eq_zero_iff, List.filter_eq_nil_iff]
  refine ⟨fun k o ho => Classical.byContradiction fun c => k o ho (decide_eq_true (uni_no hu h ho c)), fun k o ho c => ?_⟩
  rw [uni_go hu (k o ho)] at c
  exact absurd (of_decide_eq_true c) (fun q => by cases q)
theorem obs_le {os : List Ob} (hu : Uni os) {n : Nat} (h : n < 8) {us : List ID32} (k : ObF os [nm n] us) : us.length ≤ (md n).2.2.length := by
  have := nd_len (asc_nd k.asc) (m := (md n).2.2.map (·.2.1)) fun z hz => by
    obtain ⟨o, ho, e⟩ := obj_sound hu h ((k.mem z).1 hz)
    exact List.mem_map.2 ⟨o, ho, e⟩
  rwa [List.length_map] at this

theorem whole_law {ba : Option Addr} {bn bc : Nat} {z : Int} {ls : List Int} (hzb : -9223372036854775808 ≤ z ∧ z ≤ 9223372036854775807) (hbn : bn ≤ 4611686018427387904) : Spec Tryz.prog 5 [.int .i64 z, .slice ba bn bc] [rsl 1 ba bn bc (ls.map e3)] [] (fun v D' M' => v = .bool true ∧ D' = [] ∧ M' = []) := by
 refine zE (n := 77) Tryz.func5 ?_
 intro σ D M
 skip
 refine z6 (z8 (z9 rfl rfl (z7 (z4 (z6 (z6 (z8 (y2 rfl (evs.nil) qD qS (awake15_spec) jF ?_))))))))
 refine x6 rfl rfl (z7 (z4 (yK rfl rfl ?_)))
 refine zm (z4 (z6 (z8 (z5 rfl rfl (zv rfl (ev1 rfl) qD qS (made_spec hzb) ?_)))))
 rintro _ _ _ ⟨ma, mb, ml, mc, ol, oc, rfl, hml, hol, rfl, rfl⟩
 refine zt qA qA ?_
 obtain ⟨k, hk⟩ : ∃ k, k = (z % 8).toNat := ⟨_, rfl⟩
 have hk8 : k < 8 := by omega
 rw [← hk] at hml hol ⊢
 have hz8 := md_len k
 have hzs := md_sz k
 have hzo := md_olen hk8
 obtain ⟨Z, hZ⟩ : ∃ x, x = md k := ⟨_, rfl⟩
 rw [← hZ] at hml hol hz8 hzs hzo ⊢
 have hin := inC_len Z.1 ma ml mc
 have hp32 := Z.1.1.2
 refine z5 rfl rfl (zV rfl rfl rfl (zV rfl rfl rfl (zT rfl ze54 (fun b5 => ?_))))
 refine zM ag54 rfl rfl qL qO qU qW ?_
 refine z9 rfl rfl (z7 (yf (A := cl b5 54 (inC Z.1 ma ml mc)) qP ?_))
 refine z4 (z6 (z8 (z5 rfl rfl (ye rfl bs22 jD (zz rfl rfl rfl <| zL (out := []) rfl) (fun b24 => ?_)))))
 refine yJ (len := 1) qP (rows := [z].map e3) (sz := 1) (by rfl) rfl (by simp) ?_
 refine yS (rows := [z].map e3) qP ?_
 refine z5 rfl rfl (zv rfl (ev2 rfl rfl) qD qS (stock_spec (ps := [z]) (ls := ls) (fun y hy => by rw [List.mem_singleton.1 hy]; exact hzb) hbn jD) ?_)
 rintro _ _ _ ⟨sa, sb, sn, sc, sd, rfl, hsn, rfl, rfl⟩
 refine zt qA qA ?_
 have hsh := stk_shf [z] ls
 have hsl := stk_len [z] ls
 have hun := stk_uni [z] ls
 obtain ⟨os, hos⟩ : ∃ y, y = stk [z] ls := ⟨_, rfl⟩
 rw [← hos] at hsn hsh hsl hun ⊢
 refine z5 rfl rfl (zV rfl rfl rfl (zV rfl rfl rfl (zT rfl ze26 (fun b7 => ?_))))
 refine zM ag26 rfl rfl qL qO qU qW ?_
 refine z9 rfl rfl (z7 (yf (A := cl b7 26 [.slice sa sn sc]) qP ?_))
 refine z4 (z6 (z8 (z9 rfl rfl (z7 (z4 (z6 (z6 (z8 (z5 rfl rfl (y6 rfl yL rfl (z5 rfl rfl (z7 (z4 (zq (zY (fun K' D' M' μ => ∃ (i : Nat), (i ≤ ol) ∧ K' = [(31, .int .i64 (i : Int)), (9, .int .i64 (misF os Z.2.2 i : Nat))] ∧ D' = [] ∧ M' = [] ∧ μ = ol - i) (.cons (t := 5) rfl <| .cons (t := 6) rfl <| .cons (t := 7) rfl <| .cons (t := 29) rfl <| .cons (t := 30) rfl <| za _) (⟨0, Nat.zero_le _, rfl, rfl, rfl, rfl⟩) (.cons (t := 31) rfl <| .cons (t := 9) rfl <| za _) qD qS ?_)))))))))))))))
 rintro K1 D1 M1 m1 ⟨i, hi, rfl, rfl, rfl, rfl⟩
 refine zC qA qA qA ?_
 refine z6 (z8 (zU rfl rfl rfl (z7 (z4 (z6 (zj rfl (fun h32 => ?_) (fun h32 => ?_)))))))
 ·try simp only [dq] at h32
  refine zm (z4 (z6 (zq (z6 ?_))))
  have hgo : Z.2.2[i]? = some (gd Z.2.2 i) := zG jO
  obtain ⟨o, ho_⟩ : ∃ y, y = gd Z.2.2 i := ⟨_, rfl⟩
  rw [← ho_] at hgo
  clear ho_
  have hgr : (Z.2.2.map obC)[i]? = some (obC o) := zR hgo
  have ho32 := o.2.1.2
  have ho33 := obC_len o
  have hms := misF_s (os := os) hgo
  have hmi := misF_le os Z.2.2 i
  refine z8 (yM (i := i) rfl yL sz45 rfl rfl qM jR qG (fun b33 o33 => ?_))
  refine zr rfl ag45 rfl (x9 qM ho33) ?_
  refine zT rfl ze45 (fun b11 => ?_)
  refine zM ag45 rfl rfl qL qO qU qW ?_
  refine z7 (yf (A := cl b11 45 (obC o)) qP ?_)
  refine z4 (z6 (z8 (zr rfl ag26 rfl qN ?_)))
  refine zp rfl fo45_1 rfl ?_
  refine zr rfl zx rfl qN ?_
  refine zv rfl (ev2 rfl rfl) qD qS (get_spec (os := os) (x := o.2.1) jO) ?_
  rintro _ _ _ ⟨rfl, rfl, rfl⟩
  refine zt qA qA ?_
  obtain ⟨q, hq⟩ : ∃ q, q = getO os o.2.1 := ⟨_, rfl⟩
  obtain ⟨e, he⟩ : ∃ e, e = getE os o.2.1 := ⟨_, rfl⟩
  rw [← hq, ← he]
  have hq33 := obC_len q
  have hge := @geE_iff os o.2.1
  rw [← he] at hge
  refine z5 rfl rfl (zV rfl rfl rfl (zV rfl rfl rfl (zT rfl ze45 (fun b12 => ?_))))
  refine zM ag45 rfl rfl qL qO qU qW ?_
  refine z9 rfl rfl (z7 (z4 (z6 (z8 (z5 rfl rfl (yz rfl rfl rfl (z7 (z4 (zj rfl (fun h43 => ?_) (fun h43 => ?_))))))))))
  ·try simp only [dq] at h43
   rw [if_pos (hge.1 h43)] at hms
   refine z8 (z5 rfl rfl (zD rfl rfl rfl jO ?_))
   refine z9 rfl rfl (z7 (zJ (z4 (z8 (zD rfl rfl rfl jO ?_)))))
   refine z5 rfl rfl (z7 (z4 ?_))
   rw [show ((misF os Z.2.2 i : Nat) : Int) + 1 = ((misF os Z.2.2 (i + 1) : Nat) : Int) by omega]
   exact zN ⟨i + 1, jO, rfl, rfl, rfl, rfl⟩ qI (.cons (t := 31) rfl <| .cons (t := 9) rfl <| za _) (.cons (t := 5) rfl <| .cons (t := 6) rfl <| .cons (t := 7) rfl <| .cons (t := 29) rfl <| .cons (t := 30) rfl <| za _) qD qD qF
  ·try simp only [dq] at h43
   rw [if_neg (fun q => h43 (hge.2 q))] at hms
   refine zm (zJ (z4 (z8 (zD rfl rfl rfl jO ?_))))
   refine z5 rfl rfl (z7 (z4 ?_))
   rw [show misF os Z.2.2 i = misF os Z.2.2 (i + 1) by omega]
   exact zN ⟨i + 1, jO, rfl, rfl, rfl, rfl⟩ qI (.cons (t := 31) rfl <| .cons (t := 9) rfl <| za _) (.cons (t := 5) rfl <| .cons (t := 6) rfl <| .cons (t := 7) rfl <| .cons (t := 29) rfl <| .cons (t := 30) rfl <| za _) qD qD qF
 ·try simp only [dq] at h32
  obtain rfl : ol = i := by omega
  refine zO (zo (zo (zQ (z4 (z6 ?_)))))
  have hm0 : misF os Z.2.2 ol = 0 ↔ ∀ o ∈ Z.2.2, o ∈ os := by rw [← hol, hZ]; exact mis_0 hun hk8
  have hmi := misF_le os Z.2.2 ol
  refine yq qk qk (zr rfl ag26 rfl qN ?_)
  refine L.mkIface rfl xq (by intro i q; cases q) rfl ?_
  refine zr rfl ag54 rfl qN ?_
  refine y2 rfl (ev1 rfl) qD qS (iname_spec (l := Z.2.1) (p := Z.1) jO jO) jF ?_
  rw [show inN Z.1 Z.2.1 = nm k from by rw [hZ, nm_eq]]
  obtain ⟨w, hw⟩ : ∃ y, y = nm k := ⟨_, rfl⟩
  rw [← hw]
  have hw2 := w.2
  have hw3 := zS w
  refine y2 rfl (ev2 rfl rfl) qD qS (whl_spec (os := os) (x := w) jO hsh) jF ?_
  have hE : E7 (whE os w) (∀ o ∈ Z.2.2, o ∈ os) := by rw [hw, hZ]; exact whole_iff hun hk8
  obtain ⟨e, he⟩ : ∃ y, y = whE os w := ⟨_, rfl⟩
  rw [← he] at hE ⊢
  refine z9 rfl rfl (ym (z4 (z6 ?_)))
  rcases hE with ⟨he0, hall⟩ | ⟨he7, hnot⟩
  ·skip
   have hm1 := hm0.2 hall
   refine yj (clsL [1, 1, 1, 1, 1, 1, 1, 1, 1, 1, 1, 1, 1, 1, 1, 1, 1, 2, 2, 2, 1, 1, 1, 1, 1, 1]) qk ?_
   refine ze 0 rfl rfl (z5 rfl rfl (zd (ze 1 rfl rfl (yp rfl rfl rfl (zd (ze 2 rfl rfl (z5 rfl rfl (zd (ze 3 rfl rfl (yp rfl rfl rfl (zd (ze 4 rfl rfl (L.eqlB Tryz.underlying4 rfl rfl rfl ?_)))))))))))))
   refine zd (ze 5 rfl rfl (z5 rfl rfl (zd (A.known (t := 57) rfl (show _ = Value.bool true from congrArg Value.bool (by simp [he0, hm1])) ?_))))
   refine ze 6 rfl rfl (zf (dj := 57) rfl rfl rfl (z5 rfl rfl (zd (ze 7 rfl rfl (zf (dj := 57) rfl rfl rfl (yp rfl rfl rfl (zd (ze 8 rfl rfl (zf (dj := 57) rfl rfl rfl (z5 rfl rfl (zd (A.known (t := 60) rfl (show _ = Value.bool true from congrArg Value.bool (decide_eq_true jO)) ?_))))))))))))
   refine ze 9 rfl rfl (zg (dj := 60) (c := true) rfl rfl rfl rfl rfl jD (zd (ze 10 rfl rfl (zg (dj := 60) (c := true) rfl rfl rfl rfl rfl jD (zd (ze 11 rfl rfl (zf (dj := 57) rfl rfl rfl (y4 rfl rfl rfl (zd (ze 12 rfl rfl (y4 rfl rfl rfl (zd (ze 13 rfl rfl (z5 rfl rfl (zd (ze 14 rfl rfl (zf (dj := 65) rfl rfl rfl (zr rfl ag26 rfl qN ?_))))))))))))))))))
   refine zd (ze 15 rfl rfl (zf (dj := 65) rfl rfl rfl (L.mkIface rfl xq (by intro i q; cases q) rfl ?_)))
   refine zd (ze 16 rfl rfl (zf (dj := 65) rfl rfl rfl (zr rfl ag54 rfl qN ?_)))
   refine zd (ze 21 rfl rfl (zf (dj := 65) rfl rfl rfl (z5 rfl rfl (zd (ze 22 rfl rfl (zf (dj := 65) rfl rfl rfl (y6 rfl yL rfl (zd (zw 17 rfl (zf (dj := 65) rfl rfl rfl (y2 rfl (ev1 rfl) qD qS (iname_spec (l := Z.2.1) (p := Z.1) jO jO) jF ?_)))))))))))
   rw [show inN Z.1 Z.2.1 = nm k from by rw [hZ, nm_eq]]
   rw [← hw]
   refine zA rfl qD ?_
   refine zw 18 rfl (zf (dj := 65) rfl rfl rfl (ye rfl bs30 jD (yE rfl rfl (by first | with_reducible assumption | (simp; done) | (simp only [List.length_map]; with_reducible assumption) | (simp [*]; done) | rfl) (Nat.le_of_ble_eq_true rfl) qR <| zL (out := []) rfl) (fun b70 => ?_)))
   refine yJ (len := 1) qP (rows := [w].map iC) (sz := 32) (by simp) rfl (by simp [hw2]) ?_
   refine yS (rows := [w].map iC) qP ?_
   refine zA rfl qD ?_
   refine zw 19 rfl (zf (dj := 65) rfl rfl rfl (zv rfl (ev2 rfl rfl) qD qS (objs_spec (os := os) (l := [w]) jO hsh jD) ?_))
   rintro _ _ _ ⟨qa, qn, qc, us, rfl, huf, hqn, rfl, rfl⟩
   refine zt qA qA ?_
   refine zA rfl qD ?_
   refine ze 20 rfl rfl (zf (dj := 65) rfl rfl rfl (y6 rfl zy rfl (zd (ze 23 rfl rfl (zf (dj := 65) rfl rfl rfl (L.leI rfl rfl rfl (zd (ze 24 rfl rfl (y4 rfl rfl rfl (zd (ze 25 rfl rfl (z9 rfl rfl (zd (y8 qk ?_))))))))))))))
   exact z4 (zi (zB rfl rfl ⟨congrArg Value.bool (decide_eq_true (by have := obs_le hun hk8 (hw ▸ huf); rw [← hZ] at this; omega)), rfl, rfl⟩ qD qF))
  ·skip
   have hm1 : misF os Z.2.2 ol ≠ 0 := fun q => hnot (hm0.1 q)
   refine yj (clsL [1, 1, 1, 1, 1, 1, 1, 1, 1, 1, 1, 1, 1, 1, 1, 1, 1, 2, 2, 2, 1, 1, 1, 1, 1, 1]) qk ?_
   refine ze 0 rfl rfl (z5 rfl rfl (zd (ze 1 rfl rfl (yp rfl rfl rfl (zd (ze 2 rfl rfl (z5 rfl rfl (zd (ze 3 rfl rfl (yp rfl rfl rfl (zd (ze 4 rfl rfl (L.eqlB Tryz.underlying4 rfl rfl rfl ?_)))))))))))))
   refine zd (ze 5 rfl rfl (z5 rfl rfl (zd (A.known (t := 57) rfl (show _ = Value.bool true from congrArg Value.bool (by simp [he7, hm1])) ?_))))
   refine ze 6 rfl rfl (zf (dj := 57) rfl rfl rfl (z5 rfl rfl (zd (ze 7 rfl rfl (zf (dj := 57) rfl rfl rfl (yp rfl rfl rfl (zd (ze 8 rfl rfl (zf (dj := 57) rfl rfl rfl (z5 rfl rfl (zd (A.known (t := 60) rfl (show _ = Value.bool false from congrArg Value.bool (decide_eq_false jO)) ?_))))))))))))
   refine ze 9 rfl rfl (zf (dj := 60) rfl rfl rfl (z5 rfl rfl (zd (ze 10 rfl rfl (zf (dj := 60) rfl rfl rfl (yp rfl rfl rfl (zd (ze 11 rfl rfl (zf (dj := 57) rfl rfl rfl (y7 rfl rfl rfl (zd (ze 12 rfl rfl (y4 rfl rfl rfl (zd (ze 13 rfl rfl (z5 rfl rfl (zd (A.known (t := 65) rfl (show _ = Value.bool true from congrArg Value.bool (decide_eq_true he7)) ?_))))))))))))))))))
   refine ze 14 rfl rfl (zf (dj := 65) rfl rfl rfl (zr rfl ag26 rfl qN ?_))
   refine zd (ze 15 rfl rfl (zf (dj := 65) rfl rfl rfl (L.mkIface rfl xq (by intro i q; cases q) rfl ?_)))
   refine zd (ze 16 rfl rfl (zf (dj := 65) rfl rfl rfl (zr rfl ag54 rfl qN ?_)))
   refine zd (ze 21 rfl rfl (zf (dj := 65) rfl rfl rfl (z5 rfl rfl (zd (ze 22 rfl rfl (zf (dj := 65) rfl rfl rfl (y6 rfl yL rfl (zd (zw 17 rfl (zf (dj := 65) rfl rfl rfl (y2 rfl (ev1 rfl) qD qS (iname_spec (l := Z.2.1) (p := Z.1) jO jO) jF ?_)))))))))))
   rw [show inN Z.1 Z.2.1 = nm k from by rw [hZ, nm_eq]]
   rw [← hw]
   refine zA rfl qD ?_
   refine zw 18 rfl (zf (dj := 65) rfl rfl rfl (ye rfl bs30 jD (yE rfl rfl (by first | with_reducible assumption | (simp; done) | (simp only [List.length_map]; with_reducible assumption) | (simp [*]; done) | rfl) (Nat.le_of_ble_eq_true rfl) qR <| zL (out := []) rfl) (fun b70 => ?_)))
   refine yJ (len := 1) qP (rows := [w].map iC) (sz := 32) (by simp) rfl (by simp [hw2]) ?_
   refine yS (rows := [w].map iC) qP ?_
   refine zA rfl qD ?_
   refine zw 19 rfl (zf (dj := 65) rfl rfl rfl (zv rfl (ev2 rfl rfl) qD qS (objs_spec (os := os) (l := [w]) jO hsh jD) ?_))
   rintro _ _ _ ⟨qa, qn, qc, us, rfl, huf, hqn, rfl, rfl⟩
   refine zt qA qA ?_
   refine zA rfl qD ?_
   refine ze 20 rfl rfl (zf (dj := 65) rfl rfl rfl (y6 rfl zy rfl (zd (ze 23 rfl rfl (zf (dj := 65) rfl rfl rfl (L.leI rfl rfl rfl (zd (ze 24 rfl rfl (y4 rfl rfl rfl (zd (ze 25 rfl rfl (z9 rfl rfl (zd (y8 qk ?_))))))))))))))
   exact z4 (zi (zB rfl rfl ⟨congrArg Value.bool (decide_eq_true (by have := obs_le hun hk8 (hw ▸ huf); rw [← hZ] at this; omega)), rfl, rfl⟩ qD qF))
end Cv
