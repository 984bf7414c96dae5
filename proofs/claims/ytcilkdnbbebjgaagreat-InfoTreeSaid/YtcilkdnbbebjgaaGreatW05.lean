/-
  The walks: Right.
-/
import Derived.Test.YtcilkdnbbebjgaaGreatR05
import Derived.Test.YtcilkdnbbebjgaaGreatT05
import Derived.Test.YtcilkdnbbebjgaaGreatV05
import Derived.Test.YtcilkdnbbebjgaaGreatK05
import Derived.Test.YtcilkdnbbebjgaaGreatE05
import Derived.Test.YtcilkdnbbebjgaaGreatProg
import Derived.KernelRfl
set_option linter.unusedVariables false
set_option linter.unusedSimpArgs false
set_option linter.unusedSectionVars false
set_option maxRecDepth 10000
namespace Cv
open Go Go.Proofs

def RightS (x : Tr) : Prop := ∀ (a : Option Addr) (len cap : Nat) (d : Nat), (x.count ≤ 900000) → (d ≤ 100) → (TAll Sm x) → (x.t.length ≤ 20000) → Spec Tryz.prog 64 [.agg (iRow x a len cap).toArray, .int .i64 (d : Int)] [rtr x (eRow x a len cap)] [] (fun v D' M' => ∃ (Y : Tr) (a' : Option Addr) (len' cap' : Nat), v = .agg (iRow Y a' len' cap').toArray ∧ (RGood x Y) ∧ D' = [rtr Y (eRow Y a' len' cap')] ∧ M' = [])
set_option maxHeartbeats 400000 in
theorem right_spec_step (x : Tr) (ih : ∀ y ∈ x.ks, RightS y) (a : Option Addr) (len cap : Nat) (d : Nat) (hc : x.count ≤ 900000) (hd : d ≤ 100) (hs : TAll Sm x) (htl : x.t.length ≤ 20000) : Spec Tryz.prog 64 [.agg (iRow x a len cap).toArray, .int .i64 (d : Int)] [rtr x (eRow x a len cap)] [] (fun v D' M' => ∃ (Y : Tr) (a' : Option Addr) (len' cap' : Nat), v = .agg (iRow Y a' len' cap').toArray ∧ (RGood x Y) ∧ D' = [rtr Y (eRow Y a' len' cap')] ∧ M' = []) := by
 refine Spec.intro (n := 64) Tryz.func64 rfl rfl (by decide) (Nat.le_of_ble_eq_true rfl) rfl (fun _ => qA) (fun _ => qA) ?_
 intro σ D M
 refine T.trOpenR qM (fun rows hkl hrl => ?_)
 subst hkl
 refine T.kidRows qM (fun hrw => ?_)
 have hcx := x.count_eq
 have hcl := count_le_len x.ks
 refine T.seq (T.region ?_)
 refine L.box rfl rfl rfl (fun b2 => ?_)
 refine L.alloc rfl ze24 (fun b4 => ?_)
 refine L.nil ?_
 refine T.thenN (T.seq (T.seq (T.region ?_)))
 first | refine L.field0 rfl fo24_0 rfl ?_ | refine L.field rfl fo24_0 rfl ?_
 refine L.load rfl sc3 rfl qC ?_
 refine L.nil ?_
 refine T.thenN (T.block (T.seq (T.seq (T.region ?_))))
 refine L.eqI rfl rfl rfl ?_
 refine L.assign rfl rfl ?_
 refine L.nil ?_
 refine T.thenN ?_
 refine T.cutC (fun K' D' M' => ∃ (w : Bool), (w = true ↔ (x.k = 1 ∨ x.k = 2)) ∧ K' = [(12, .bool w)] ∧ D' = [] ∧ M' = []) (M0 := []) (.cons (t := 1) rfl <| .cons (t := 2) rfl <| .cons (t := 4) rfl <| .cons (t := 11) rfl <| SubK.nil _) qS ?_ ?_
 ·skip
  refine T.cond rfl (fun h12 => ?_) (fun h12 => ?_)
  ·try simp only [dq] at h12
   refine T.skip (T.thenN ?_)
   exact T.toJoin ⟨_, (by simp_all), rfl, rfl, rfl⟩ (.cons (t := 12) rfl <| SubK.nil _) (.cons (t := 1) rfl <| .cons (t := 2) rfl <| .cons (t := 4) rfl <| .cons (t := 11) rfl <| SubK.nil _) qD qD qF
  ·try simp only [dq] at h12
   refine T.region ?_
   refine L.eqI rfl rfl rfl ?_
   refine L.assign rfl rfl ?_
   refine L.nil ?_
   refine T.thenN ?_
   exact T.toJoin ⟨_, (by simp_all), rfl, rfl, rfl⟩ (.cons (t := 12) rfl <| SubK.nil _) (.cons (t := 1) rfl <| .cons (t := 2) rfl <| .cons (t := 4) rfl <| .cons (t := 11) rfl <| SubK.nil _) qD qD qF
 rintro _ _ _ ⟨w, hw, rfl, rfl, rfl⟩
 refine T.norm3 qA qA qA ?_
 refine T.thenN ?_
 refine T.cond rfl (fun h12 => ?_) (fun h12 => ?_)
 ·try simp only [dq] at h12
  refine T.seq ?_
  refine T.regionA (clsL [1, 0, 1, 0, 0, 1, 2]) qk ?_
  refine A.takeP (i := 0) rfl rfl rfl rfl qk qk qk rfl qD ?_
  first | refine L.field0 rfl fo24_0 rfl ?_ | refine L.field rfl fo24_0 rfl ?_
  refine A.took ?_
  refine A.takeP (i := 2) rfl rfl rfl rfl qk qk qk rfl qD ?_
  first | refine L.field0 rfl fo24_1 rfl ?_ | refine L.field rfl fo24_1 rfl ?_
  refine A.took ?_
  refine A.take (i := 1) rfl rfl rfl rfl qk qk qk qk rfl qD qF ?_
  refine L.load rfl sc3 rfl qC ?_
  refine A.took ?_
  refine A.take (i := 3) rfl rfl rfl rfl qk qk qk qk rfl qD qF ?_
  refine L.load rfl sc9 rfl qC ?_
  refine A.took ?_
  refine A.branch (is := [4]) qk (by decide) (Each.cons rfl ?_ <| Each.nil) 
  refine L.callF rfl (evs.cons rfl <| evs.cons rfl <| evs.nil) qD qS (cut_spec (n := 300)) (by rintro u D1 M1 ⟨rfl, rfl, rfl⟩; exact ⟨rfl, _, qA, qF⟩) ?_
  refine A.back rfl qD qF ?_
  refine A.takeP (i := 5) rfl rfl rfl rfl qk qk qk rfl qD ?_
  refine L.build rfl bu24 (BP.one rfl rfl rfl <| BP.one rfl rfl rfl <| BP.doneE (out := [Value.slice none 0 0]) rfl) ?_
  refine A.took ?_
  refine A.branch (is := [6]) qk (by decide) (Each.cons rfl ?_ <| Each.nil) 
  refine L.storeA ag24 rfl rfl qL qO qU qW ?_
  refine A.backT rfl qD ?_
  refine A.done qk ?_
  refine T.thenN (T.ret (T.blkR ?_))
  refine T.thenR ?_
  refine T.fact0 (φ := rtr (.mk [] x.k (x.t.take 300) []) (eRow (.mk [] x.k (x.t.take 300) []) none 0 0)) (fun z => rt_leaf) ?_
  exact T.retA rfl ag24 rfl qN ⟨.mk [] x.k (x.t.take 300) [], none, 0, 0, rfl, RGood.leaf (by rw [List.length_take]; omega), rfl, rfl⟩ qD qF
 ·try simp only [dq] at h12
  refine T.seq (T.region ?_)
  refine L.eqI rfl rfl rfl ?_
  refine L.assign rfl rfl ?_
  refine L.nil ?_
  refine T.thenN ?_
  refine T.cond rfl (fun h21 => ?_) (fun h21 => ?_)
  ·try simp only [dq] at h21
   refine T.seq (T.region ?_)
   first | refine L.field0 rfl fo24_1 rfl ?_ | refine L.field rfl fo24_1 rfl ?_
   refine L.load rfl sc9 rfl qC ?_
   refine L.callF rfl (evs.cons rfl <| evs.nil) qD qS (letters_spec (s := x.t) (by omega)) (by rintro u D1 M1 ⟨rfl, rfl, rfl⟩; exact ⟨rfl, _, qA, qF⟩) ?_
   refine L.build rfl bu24 (BP.one rfl rfl rfl <| BP.one rfl rfl rfl <| BP.doneE (out := [Value.slice none 0 0]) rfl) ?_
   refine L.storeA ag24 rfl rfl qL qO qU qW ?_
   refine L.nil ?_
   refine T.thenN (T.ret (T.blkR ?_))
   refine T.thenR ?_
   refine T.fact0 (φ := rtr (.mk [] 3 (letF x.t) []) (eRow (.mk [] 3 (letF x.t) []) none 0 0)) (fun z => rt_leaf) ?_
   exact T.retA rfl ag24 rfl qN ⟨.mk [] 3 (letF x.t) [], none, 0, 0, rfl, RGood.leaf (by have := letF_len x.t; omega), rfl, rfl⟩ qD qF
  ·try simp only [dq] at h21
   refine T.skip (T.blkN (T.thenN (T.seq (T.region ?_))))
   refine L.makeMap S iK rfl (fun rb => ?_)
   refine L.assign rfl rfl ?_
   refine L.nil ?_
   refine T.thenN (T.seq (T.region ?_))
   refine L.buildSlice rfl bs22 (by decide) (BP.doneE (out := []) rfl) (fun b28 => ?_)
   refine L.toOwn (len := 0) (sz := 4) qP (rows := ([] : List ET).map eT) (by rfl) rfl (by simp) ?_
   refine L.fact0 (φ := etsA []) (fun z q hq => by cases hq) ?_
   refine L.assign rfl rfl ?_
   refine L.nil ?_
   refine T.thenN (T.seq (T.seq (T.region ?_)))
   first | refine L.field0 rfl fo24_2 rfl ?_ | refine L.field rfl fo24_2 rfl ?_
   refine L.load rfl sc22 rfl qC ?_
   refine L.lenSl rfl Tryz.underlying22 rfl ?_
   refine L.move rfl rfl ?_
   refine L.nil ?_
   refine T.thenN (T.block ?_)
   refine T.loop (fun K' D' M' μ => ∃ (i l1 c1 : Nat) (a1 : Option Addr) (acc : List ET) (lm : List (List UInt8 × Int)), ((i ≤ x.ks.length ∧ l1 ≤ i) ∧ RI x i acc ∧ V5 lm i ∧ acc.length = l1) ∧ K' = [(32, .int .i64 i), (6, .slice a1 l1 c1)] ∧ D' = [etsA acc] ∧ M' = [own 4 142 a1 l1 c1 (acc.map eT), mp rb S iK lm] ∧ μ = x.ks.length - i) (.cons (t := 1) rfl <| .cons (t := 4) rfl <| .cons (t := 5) rfl <| .cons (t := 30) rfl <| .cons (t := 31) rfl <| SubK.nil _) (⟨0, 0, _, _, [], [], ⟨by omega, RI.zero x, V5.zero, rfl⟩, rfl, rfl, rfl, rfl⟩) (.cons (t := 32) rfl <| .cons (t := 6) rfl <| SubK.nil _) qD qS ?_
   rintro K1 D1 M1 m1 ⟨i, l1, c1, a1, acc, lm, ⟨⟨hi, hl1⟩, hI, hV, hal⟩, rfl, rfl, rfl, rfl⟩
   refine T.norm3 qA qA qA ?_
   refine T.seq (T.region ?_)
   refine L.ltI rfl rfl rfl ?_
   refine L.nil ?_
   refine T.thenN (T.seq ?_)
   refine T.cond rfl (fun h33 => ?_) (fun h33 => ?_)
   ·try simp only [dq] at h33
    refine T.skip (T.thenN (T.seq (T.block (T.seq ?_))))
    have hy : x.ks[i]? = some (gd x.ks i) := gd_get (by omega)
    obtain ⟨y, hyy⟩ : ∃ y, y = gd x.ks i := ⟨_, rfl⟩
    rw [← hyy] at hy
    refine T.kidOpen qM hy (fun ka kl kc hr => ?_)
    have hcs := countL_step hy
    have hcy := count_pos y
    have hsy := hs.kid (kid_mem hy)
    have hvg := hV.get (letF y.n)
    refine T.region ?_
    refine L.idx (i := i) rfl Tryz.underlying22 sz142 rfl rfl qM (by first | rfl | omega | (simp; done)) qG (fun b34 o34 => ?_)
    refine L.loadA rfl ag142 rfl qN ?_
    refine L.alloc rfl ze142 (fun b8 => ?_)
    refine L.storeA ag142 rfl rfl qL qO qU qW ?_
    refine L.nil ?_
    refine T.thenN (T.seq (T.region ?_))
    first | refine L.field0 rfl fo142_0 rfl ?_ | refine L.field rfl fo142_0 rfl ?_
    refine L.load rfl sc9 rfl qC ?_
    refine L.callF rfl (evs.cons rfl <| evs.nil) qD qS (letters_spec (s := y.n) (by have := hsy.1.1; omega)) (by rintro u D1 M1 ⟨rfl, rfl, rfl⟩; exact ⟨rfl, _, qA, qF⟩) ?_
    refine L.assign rfl rfl ?_
    refine L.nil ?_
    refine T.thenN (T.seq (T.region ?_))
    refine L.move rfl rfl ?_
    refine L.move rfl rfl ?_
    refine L.lookup1 (kenc := S) (venc := iK) (k := letF y.n) (l := lm) rfl Tryz.underlying173 (keyT_str Tryz.underlying9) zv3 rfl rfl qM ?_
    refine L.known (t := 41) (u := .int .i64 ((look lm (letF y.n)).getD 0)) rfl (by cases look lm (letF y.n) <;> rfl) ?_
    refine L.addN rfl rfl rfl (by omega) ?_
    refine L.mapUpdate (kenc := S) (venc := iK) (l := lm) (k := letF y.n) (v := (look lm (letF y.n)).getD 0 + 1) Tryz.underlying173 (keyT_str Tryz.underlying9) rfl rfl rfl rfl qP ?_
    refine L.nil ?_
    refine T.thenN (T.seq ?_)
    refine T.cutC (fun K' D' M' => ∃ (w2 : Bool), (w2 = true → d < 8) ∧ K' = [(50, .bool w2)] ∧ D' = [] ∧ M' = []) (M0 := []) (.cons (t := 1) rfl <| .cons (t := 4) rfl <| .cons (t := 5) rfl <| .cons (t := 6) rfl <| .cons (t := 8) rfl <| .cons (t := 9) rfl <| .cons (t := 30) rfl <| .cons (t := 31) rfl <| .cons (t := 32) rfl <| SubK.nil _) qS ?_ ?_
    ·skip
     refine T.region ?_
     refine L.move rfl rfl ?_
     refine L.move rfl rfl ?_
     refine L.lookup1 (kenc := S) (venc := iK) (k := letF y.n) (l := put lm (letF y.n) ((look lm (letF y.n)).getD 0 + 1)) rfl Tryz.underlying173 (keyT_str Tryz.underlying9) zv3 rfl rfl qM ?_
     refine L.known (t := 45) (u := .int .i64 ((look lm (letF y.n)).getD 0 + 1)) rfl (by rw [look_put, if_pos rfl]; rfl) ?_
     refine L.eqI rfl rfl rfl ?_
     refine L.move rfl rfl ?_
     refine L.part (t := 47) rfl (fun h1 => ?_) (fun h1 => ?_)
     ·try simp only [dq] at h1
      refine L.guardT (dj := 47) rfl rfl rfl ?_
      refine L.move rfl rfl ?_
      refine L.guardT (dj := 47) rfl rfl rfl ?_
      refine L.ltI rfl rfl rfl ?_
      refine L.pickT rfl rfl rfl ?_
      refine L.nil ?_
      refine T.thenN ?_
      exact T.toJoin ⟨_, (by simp_all <;> omega), rfl, rfl, rfl⟩ (.cons (t := 50) rfl <| SubK.nil _) (.cons (t := 1) rfl <| .cons (t := 4) rfl <| .cons (t := 5) rfl <| .cons (t := 6) rfl <| .cons (t := 8) rfl <| .cons (t := 9) rfl <| .cons (t := 30) rfl <| .cons (t := 31) rfl <| .cons (t := 32) rfl <| SubK.nil _) qD qD qF
     ·try simp only [dq] at h1
      refine L.guardF (dj := 47) (c := false) rfl rfl rfl rfl rfl (by decide) ?_
      refine L.guardF (dj := 47) (c := false) rfl rfl rfl rfl rfl (by decide) ?_
      refine L.pickF rfl rfl rfl ?_
      refine L.nil ?_
      refine T.thenN ?_
      exact T.toJoin ⟨_, (by simp_all <;> omega), rfl, rfl, rfl⟩ (.cons (t := 50) rfl <| SubK.nil _) (.cons (t := 1) rfl <| .cons (t := 4) rfl <| .cons (t := 5) rfl <| .cons (t := 6) rfl <| .cons (t := 8) rfl <| .cons (t := 9) rfl <| .cons (t := 30) rfl <| .cons (t := 31) rfl <| .cons (t := 32) rfl <| SubK.nil _) qD qD qF
    rintro _ _ _ ⟨w2, hw2, rfl, rfl, rfl⟩
    refine T.norm3 qA qA qA ?_
    refine T.thenN ?_
    refine T.cond rfl (fun h50 => ?_) (fun h50 => ?_)
    ·try simp only [dq] at h50
     have hd8 := hw2 h50
     refine T.region ?_
     refine L.move rfl rfl ?_
     refine L.move rfl rfl ?_
     first | refine L.field0 rfl fo142_1 rfl ?_ | refine L.field rfl fo142_1 rfl ?_
     refine L.loadA rfl ag24 rfl qN ?_
     refine L.move rfl rfl ?_
     refine L.addN rfl rfl rfl (by omega) ?_
     refine L.call rfl (evs.cons rfl <| evs.cons rfl <| evs.nil) qD qS (ih y (kid_mem hy) ka kl kc (d + 1) (by omega) (by omega) hsy.2 hsy.1.2) ?_
     rintro _ _ _ ⟨Y1, fa, fl, fc, rfl, hYg, rfl, rfl⟩
     refine L.norm qA qA ?_
     refine L.build rfl bu142 (BP.one rfl rfl rfl <| BP.agg rfl rfl (by first | with_reducible assumption | (simp; done) | (simp only [List.length_map]; with_reducible assumption) | (simp [*]; done) | rfl) (Nat.le_of_ble_eq_true rfl) qR <| BP.doneE (out := []) rfl) ?_
     refine L.buildSlice rfl bs22 (by decide) (BP.agg rfl rfl (by first | with_reducible assumption | (simp; done) | (simp only [List.length_map]; with_reducible assumption) | (simp [*]; done) | rfl) (Nat.le_of_ble_eq_true rfl) qR <| BP.doneE (out := []) rfl) (fun b59 => ?_)
     refine L.append1 rfl Tryz.underlying22 el142 rfl rfl qP qM rfl qO1 qI qI (fun a60 c60 => ?_)
     refine L.assign rfl rfl ?_
     refine L.nil ?_
     refine T.blkN (T.thenN (T.region ?_))
     refine L.addN rfl rfl rfl (by omega) ?_
     refine L.move rfl rfl ?_
     refine L.nil ?_
     refine T.thenN ?_
     refine T.ownEq _ ((acc ++ [(Y1.named (letF y.n), fa, fl, fc)]).map eT) qP (by rw [List.map_append]; rfl) ?_
     refine T.trName (x := Y1) (y := Y1.named (letF y.n)) qM rfl ?_
     refine T.etsSnoc (xs := acc) (Y := Y1) (m := letF y.n) qM qM ?_
     exact T.back ⟨i + 1, l1 + 1, _, _, acc ++ [(Y1.named (letF y.n), fa, fl, fc)], _, ⟨by omega, hI.snoc hy hYg (by have := letF_len y.n; omega), hV.put _, by simp [hal]⟩, rfl, rfl, rfl, rfl⟩ qI (.cons (t := 32) rfl <| .cons (t := 6) rfl <| SubK.nil _) (.cons (t := 1) rfl <| .cons (t := 4) rfl <| .cons (t := 5) rfl <| .cons (t := 30) rfl <| .cons (t := 31) rfl <| SubK.nil _) qD qD qF
    ·try simp only [dq] at h50
     refine T.skip (T.blkN (T.thenN (T.region ?_)))
     refine L.addN rfl rfl rfl (by omega) ?_
     refine L.move rfl rfl ?_
     refine L.nil ?_
     refine T.thenN ?_
     exact T.back ⟨i + 1, l1, _, _, acc, _, ⟨by omega, hI.skip hy, hV.put _, hal⟩, rfl, rfl, rfl, rfl⟩ qI (.cons (t := 32) rfl <| .cons (t := 6) rfl <| SubK.nil _) (.cons (t := 1) rfl <| .cons (t := 4) rfl <| .cons (t := 5) rfl <| .cons (t := 30) rfl <| .cons (t := 31) rfl <| SubK.nil _) qD qD qF
   ·try simp only [dq] at h33
    refine T.exit (T.thenX (T.thenX (T.blkX (T.thenN (T.seq (T.region ?_))))))
    refine L.move rfl rfl ?_
    refine L.call rfl (evs.cons rfl <| evs.nil) qD qS (of_spec2 (xs := acc) (len := l1) (by omega)) ?_
    rintro _ _ _ ⟨oa, oc, ys, rfl, hk, hsT, hyl, rfl, rfl⟩
    refine L.norm qA qA ?_
    refine L.storeA ag24 rfl rfl qL qO qU qW ?_
    refine L.nil ?_
    refine T.thenN (T.ret ?_)
    exact T.retA rfl ag24 rfl qN ⟨ofT ys, _, _, _, rfl, RI.of hI (by omega) hk, rfl, rfl⟩ qD qF
theorem right_spec (x : Tr) : RightS x := Tr.ind (p := RightS) (fun x ih a len cap d hc hd hs htl => right_spec_step x ih a len cap d hc hd hs htl) x
def OkT (Y : Tr) : Prop := chkE Y = 0 ∧ Y.count ≤ 30 ∧ TAll Sm Y ∧ Y.t.length ≤ 20000 ∧ TAll Sm2 Y ∧ Y.t.length ≤ 300
theorem okT_x : OkT (.mk [] 1 [120] []) := ⟨by decide +kernel, by rw [Tr.count_eq]; decide, tall_leaf, by decide, tall_leaf, by decide⟩
set_option maxHeartbeats 400000 in
theorem Right_spec {x : Tr} (a : Option Addr) (len cap : Nat)  : Spec Tryz.prog 29 [.agg (iRow x a len cap).toArray] [rtr x (eRow x a len cap)] [] (fun v D' M' => ∃ (Y : Tr) (a' : Option Addr) (len' cap' : Nat), v = .agg (iRow Y a' len' cap').toArray ∧ (OkT Y) ∧ D' = [rtr Y (eRow Y a' len' cap')] ∧ M' = []) := by
 refine Spec.intro (n := 13) Tryz.func29 rfl rfl (by decide) (Nat.le_of_ble_eq_true rfl) rfl (fun _ => qA) (fun _ => qA) ?_
 intro σ D M
 have hfc := few_count x 30 1 (by decide)
 have hsm := few_sm x 30 1
 obtain ⟨X, hX⟩ : ∃ Y, (fewT x 30 1).1 = Y := ⟨_, rfl⟩
 have hfs := Few_spec (x := x) a len cap
 rw [hX] at hfs hfc hsm
 refine T.seq (T.region ?_)
 refine L.box rfl rfl rfl (fun b1 => ?_)
 refine L.alloc rfl ze24 (fun b2 => ?_)
 refine L.nil ?_
 refine T.thenN (T.seq (T.region ?_))
 refine L.loadA rfl ag24 rfl qN ?_
 refine L.call rfl (evs.cons rfl <| evs.nil) qD qS (hfs) ?_
 rintro _ _ _ ⟨fa, fl, fc, rfl, rfl, rfl⟩
 refine L.norm qA qA ?_
 refine L.storeA ag24 rfl rfl qL qO qU qW ?_
 refine L.nil ?_
 refine T.thenN (T.seq (T.region ?_))
 refine L.loadA rfl ag24 rfl qN ?_
 refine L.call rfl (evs.cons rfl <| evs.cons rfl <| evs.nil) qD qS (right_spec X fa fl fc 1 (by omega) (by omega) hsm.1 hsm.2) ?_
 rintro _ _ _ ⟨Y, ya, yl, yc, rfl, hYg, rfl, rfl⟩
 refine L.norm qA qA ?_
 have hYc := hYg.1
 refine L.alloc rfl ze24 (fun b3 => ?_)
 refine L.storeA ag24 rfl rfl qL qO qU qW ?_
 refine L.nil ?_
 refine T.thenN (T.seq (T.seq (T.region ?_)))
 refine L.loadA rfl ag24 rfl qN ?_
 refine L.callF rfl (evs.cons rfl <| evs.nil) qD qS (Chk_spec (x := Y) _ _ _ (by omega) (sm2_all Y hYg.2.1) (by have := hYg.2.2; omega)) (by rintro u D1 M1 ⟨rfl, rfl, rfl⟩; exact ⟨rfl, _, qA, qF⟩) ?_
 refine L.neI rfl rfl rfl ?_
 refine L.nil ?_
 refine T.thenN ?_
 refine T.cond rfl (fun h10 => ?_) (fun h10 => ?_)
 ·try simp only [dq] at h10
  refine T.seq (T.region ?_)
  refine L.build rfl bu24 (BP.one rfl rfl rfl <| BP.one rfl rfl rfl <| BP.doneE (out := [Value.slice none 0 0]) rfl) ?_
  refine L.storeA ag24 rfl rfl qL qO qU qW ?_
  refine L.nil ?_
  refine T.thenN (T.ret ?_)
  refine T.thenR ?_
  refine T.fact0 (φ := rtr (.mk [] 1 [120] []) (eRow (.mk [] 1 [120] []) none 0 0)) (fun z => rt_leaf) ?_
  exact T.retA rfl ag24 rfl qN ⟨.mk [] 1 [120] [], none, 0, 0, rfl, okT_x, rfl, rfl⟩ qD qF
 ·try simp only [dq] at h10
  refine T.skip (T.thenN (T.seq (T.region ?_)))
  refine L.loadA rfl ag24 rfl qN ?_
  refine L.storeA ag24 rfl rfl qL qO qU qW ?_
  refine L.nil ?_
  refine T.thenN (T.ret ?_)
  exact T.retA rfl ag24 rfl qN ⟨Y, _, _, _, rfl, ⟨by simpa using h10, by omega, sm2_all Y hYg.2.1, by have := hYg.2.2; omega, hYg.2.1, hYg.2.2⟩, rfl, rfl⟩ qD qF
end Cv
